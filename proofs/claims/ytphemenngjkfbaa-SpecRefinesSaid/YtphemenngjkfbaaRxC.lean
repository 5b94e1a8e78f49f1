/- Executor. -/
import Derived.Test.YtphemenngjkfbaaM00
open List renaming range → ag5
namespace Go.RX
inductive CK where
 | int (k:IntKind) | bool | val (i:Nat) | ptr | bY | str | cv | Ii (l:List Nat) | pt (i:E) (v:Nat)
 deriving DecidableEq,Repr
structure cb where
 ck:CK
 w:Nat
 a:E
 deriving DecidableEq,Repr
inductive Jump where
 | none | ret | exit (id:Nat)
 deriving DecidableEq,Repr
def Jump.code:Jump→Option Code
 | .none=>Option.none
 | .ret=>some .ret
 | .exit id=>some (.exit id)
inductive RS where
 | ready | busy | done | exhausted
 deriving DecidableEq,Repr
def RS.st:RS→LoopState
 | .ready=> .ready
 | .busy=> .busy
 | .done=> .done
 | .exhausted=> .exhausted
inductive Ck where
 | emp
 | row (b:Nat) (wr:Bool) (cs:List SV)
 | cy (md:Bool) (v t s:Nat) (n:E) (aA:List cb)
 | abs (i:Nat)
 | mg (l r:Nat) (s:RS) (j:Jump)
 | Mb (b:Nat)
 | qA (b:Nat)
 | map (b:Nat) (kl:List IntKind) (ka va:Bool) (zero:List SV) (has:E) (aA:List cb)
 | ow (b:Nat) (kl:List IntKind) (ka va:Bool) (zero:List SV) (es:List (Nat×List SV))
 | Kf (b t e:Nat) (n a:E)
 | NA (b:Nat) (l:List UInt8) (pos:Nat)
 deriving Repr,Inhabited
def ax(k:IntKind)(w:Nat)(f:Nat→Int)(i:Nat):List Value:=ak k w fun j=>f (i*w+j)
def oh(w:Nat)(f:Nat→Int)(i:Nat):List Value:=(ag5 w).map fun j=> .bool (!(f (i*w+j)==0))
def dC(w:Nat)(f:Nat→Value)(i:Nat):List Value:=(ag5 w).map fun j=>f (i*w+j)
def pJ(w:Nat)(f:Nat→Int)(i:Nat):List Value:=(ag5 w).map fun j=>aD (f (i*w+j))
def cb.cells(ρ:Env)(c:cb):Nat→List Value:=
 match c.ck with
 | .int k=>ax k c.w (c.a.den ρ)
 | .bool=>oh c.w (c.a.den ρ)
 | .val v=>dC c.w fun j=>((ρ.va.getD v fun _=>V1.nil) j).v
 | .ptr=>pJ c.w (c.a.den ρ)
 | .bY=>dC c.w fun _=> .slice none 0 0
 | .str=>dC c.w fun j=> .string ⟨(eI (qx (c.a.den ρ) j)).toArray⟩
 | .cv=>dC c.w fun j=>iR (c.a.den ρ j)
 | .Ii l=>dC c.w fun j=>((l[j]?).elim V1.nil fun n=>ρ.vv.getD n V1.nil).v
 | .pt i v=>dC c.w fun j=>if j=(i.den ρ 0).toNat then(ρ.vv.getD v V1.nil).v else iR (c.a.den ρ j)
def aT(n:Nat)(cs:List (Nat→List Value)):List Value:=(ag5 n).flatMap fun i=>cs.flatMap fun c=>c i
def aI(ρ:Env)(n:Nat)(aA:List cb):List Value:=aT n (aA.map (cb.cells ρ))
def oz(es:List (Nat×List SV))(zero:List SV)(k:Nat):List SV:=
 match es with
 | []=>zero
 | (i,v)::r=>if i=k then v else oz r zero k
def qV(es:List (Nat×List SV))(k:Nat):Bool:=
 match es with
 | []=>false
 | (i,_)::r=>if i=k then true else qV r k
def Cd(k:Nat)(v:List SV):List (Nat×List SV)→List (Nat×List SV)
 | []=>[(k,v)]
 | (i,u)::r=>if i=k then(k,v)::r else(i,u)::Cd k v r
def wA(es:List (Nat×List Value))(zero:List Value)(k:Nat):List Value:=
 match es with
 | []=>zero
 | (i,v)::r=>if i=k then v else wA r zero k
def BZ(es:List Nat)(k:Nat):Bool:=
 match es with
 | []=>false
 | i::r=>if i=k then true else BZ r k
def Fb(ρ:Env)(es:List (Nat×List SV)):List (Nat×List Value):=
 match es with
 | []=>[]
 | (i,v)::r=>(i,SV.ar ρ v)::Fb ρ r
theorem Lh(ρ:Env)(zero:List SV)(k:Nat): ∀es:List (Nat×List SV),wA (Fb ρ es) (SV.ar ρ zero) k=SV.ar ρ (oz es zero k)
 | []=>rfl
 | (i,v)::r=>by simp only [Fb,wA,oz];split<;>first | rfl | exact Lh ρ zero k r
def iG:Loop:=⟨.ready,none,0,#[],#[],.skip,.skip,0⟩
noncomputable def Ck.den(ρ:Env):Ck→HP
 | .emp=>HP.emp
 | .row b wr cs=>ao (ρ.bv.getD b 0) wr (SV.ar ρ cs)
 | .cy md v t s n aA=>aC md t s (ρ.vv.getD v V1.nil).v (n.den ρ 0).toNat (aI ρ (n.den ρ 0).toNat aA)
 | .abs i=>ρ.pv.getD i HP.emp
 | .mg l r s j=>lC (ρ.bv.getD l 0) {ρ.lr.getD r iG with state:=s.st,pending:=j.code}
 | .Mb b=>zN (ρ.bv.getD b 0)
 | .qA b=>l5 (qK (ρ.bv.getD b 0))
 | .map b kl ka va zero has aA=>bK (ρ.bv.getD b 0) kl ka va (SV.ar ρ zero) (fun i=> !(has.den ρ i==0)) fun i=>(aA.map (cb.cells ρ)).flatMap fun c=>c i
 | .ow b kl ka va zero es=>bK (ρ.bv.getD b 0) kl ka va (SV.ar ρ zero) (fun i=>qV es i) fun i=>wA (Fb ρ es) (SV.ar ρ zero) i
 | .Kf b t e n a=>TN (ρ.bv.getD b 0) t e (ak .u8 (n.den ρ 0).toNat (a.den ρ))
 | .NA b l pos=>TM (ρ.bv.getD b 0) l pos
theorem Ck.lK(ρ:Env)(b:Nat)(kl:List IntKind)(ka va:Bool)(zero:List SV)(es:List (Nat×List SV)):
  Ck.den ρ (.ow b kl ka va zero es)=bK (ρ.bv.getD b 0) kl ka va (SV.ar ρ zero) (fun i=>qV es i) fun i=>SV.ar ρ (oz es zero i):=by
 simp only [Ck.den,Lh]
inductive TK where
 | int (k:IntKind) | bool | str | ptr (e:Nat) | slice (e:Nat) | arr (n e:Nat) | struct (fs:List (Nat×Nat)) | map (k e:Nat) | func | iface | Kf (fs:List (Nat×Nat)) (e:Nat)
 deriving DecidableEq,Repr
abbrev gR:=Option IntKind
structure TI where
 t:Nat
 k:TK
 size:Nat
 bytes:Nat
 zero:List SV
 lay:List (gR×Nat):=[]
 deriving Repr
def lE:List (gR×Nat)→List gR
 | []=>[]
 | (k,n)::r=>List.replicate n k++lE r
def qU:List SV→List gR→Bool
 | [],[]=>true
 | .int k _::r,some k'::l=>k==k'&&qU r l
 | .bool _::r,none::l=>qU r l
 | .a_ k n _::r,l=>decide (n≤l.length)&&(l.take n).all (· ==some k)&&qU r (l.drop n)
 | _,_=>false
def aW(T:List TI)(t:Nat):Option TI:=T.find? fun i=>i.t==t
def TK.agg:TK→Bool
 | .arr .. =>true
 | .struct _=>true
 | .Kf .. =>true
 | _=>false
def dV:E→E→E
 | .lit a,.lit b=> .lit (a+b)
 | .lit 0,b=>b
 | a,.lit 0=>a
 | a,b=> .bin .add .i64 a b
def tT:E→E→E
 | .lit a,.lit b=> .lit (a - b)
 | a,.lit 0=>a
 | a,b=> .bin .sub .i64 a b
def qL:E→E→E
 | .lit a,.lit b=> .lit (a*b)
 | .lit 1,b=>b
 | a,.lit 1=>a
 | a,b=> .bin .mul .i64 a b
def kQ:E→E→E
 | a,.lit 0=>a
 | .lit n,_=> .lit n
 | a,o=> .shift a o
def E.Xj:E→Bool
 | .lit _=>true
 | .var _=>true
 | .gW .. =>true
 | .bin .. =>true
 | .wrap .. =>true
 | .kc .. =>true
 | .rT _=>true
 | _=>false
def Ei(v:E):E:=if v.Xj then v else .gW v (.lit 0)
def Ej:E→E→E
 | .lit n,_=> .lit n
 | .qJ a (.lit j) s,.lit i=>if i.toNat=j.toNat then s else Ej a (.lit i)
 | .qJ a j s,i=>if i=j then s else .RG (.qJ a j s) i
 | a,i=> .RG a i
def gX:E→E→E
 | .lit n,_=> .lit n
 | .qw l,.lit i=> .lit (l.getD i.toNat 0)
 | .bP b (.lit j) v,.lit i=>if i.toNat=j.toNat then Ei v else gX b (.lit i)
 | .shift b (.lit o),.lit i=>gX b (.lit (o.toNat+i.toNat:Nat))
 | .Eg b (.lit o) (.lit n) x,.lit i=>if o.toNat≤i.toNat∧i.toNat<o.toNat+n.toNat then gX x (.lit (i.toNat - o.toNat:Nat))else gX b (.lit i)
 | .bP b i v,i'=>if i=i' then Ei v else .gW (.bP b i v) i'
 | a,i=> .gW a i
def wF(o:Ka)(k:IntKind):E→E→E
 | .lit a,.lit b=> .lit (aF o k a b)
 | a,b=> .bin o k a b
def NV(k:IntKind):E→E
 | .lit a=> .lit (k.wrap a)
 | a=> .wrap k a
def RL:E→BE
 | .lit n=> .lit (!(n==0))
 | a=> .nz a
def U4:E→E→BE
 | .lit a,.lit b=> .lit (a==b)
 | a,b=>if a=b then .lit true else .eq a b
def Ie:E→E→BE
 | .lit a,.lit b=> .lit (decide (a<b))
 | a,b=> .lt a b
def yM:E→E→BE
 | .lit a,.lit b=> .lit (decide (a≤b))
 | a,b=> .le a b
def iT:BE→BE
 | .lit b=> .lit (!b)
 | .not b=>b
 | b=> .not b
def B1:BE→BE→BE
 | .lit true,b=>b
 | .lit false,_=> .lit false
 | a,.lit true=>a
 | a,b=> .and a b
def ZE:BE→BE→BE
 | .lit false,b=>b
 | .lit true,_=> .lit true
 | a,.lit false=>a
 | a,b=> .or a b
def FP:BE→BE→BE→BE
 | .lit true,a,_=>a
 | .lit false,_,b=>b
 | c,.lit true,b=>ZE c b
 | c,a,.lit false=>B1 c a
 | c,a,b=> .ite c a b
def fZ(l:List UInt8):E:= .qw ((l.length:Int)::l.map fun b=>((b.toNat:Nat):Int))
def qM:SV→Option E
 | .str l=>some (fZ l)
 | .lZ s=>some s
 | _=>none
def mkStr:E→SV
 | .qw (n::l)=>if(n==(l.length:Int))&&l.all (fun b=>decide (0≤b)&&decide (b<256))then .str (l.map fun b=>UInt8.ofNat b.toNat)else .lZ (.qw (n::l))
 | s=> .lZ s
def lD(s:E):E:=gX s (.lit 0)
def LJ:E→E
 | .qw (n::l)=>if l.all (fun b=>decide (0≤b)&&decide (b<256))then .qw l else .TJ (.qw (n::l))
 | s=> .TJ s
def tV(a n:E):E:= .bP (.Eg (.lit 0) (.lit 1) n a) (.lit 0) n
def CX(s lo hi:E):E:=
 match s with
 | .bP x (.lit 0) _=> .bP (kQ x lo) (.lit 0) (tT hi lo)
 | s=> .bP (kQ s lo) (.lit 0) (tT hi lo)
def LM(s t:E):E:= .bP (.Eg s (dV (lD s) (.lit 1)) (lD t) (kQ t (.lit 1))) (.lit 0) (dV (lD s) (lD t))
def RK(a b:E):BE:=if a=b then .lit true else .seq a b
mutual
def SV.width:SV→Nat
 | .a_ _ n _=>n
 | .agg cs=>SV.qN cs
 | _=>1
def SV.qN:List SV→Nat
 | []=>0
 | v::r=>SV.width v+SV.qN r
end
abbrev kW(cs:List SV):Nat:=SV.qN cs
def fF:Nat→List SV→Option (List SV)
 | 0,cs=>some cs
 | _+1,[]=>some []
 | _+1,.agg _::_=>none
 | d+1,.a_ k n a::r=>if d+1<n then some (.a_ k (n - (d+1)) (kQ a (.lit (d+1:Nat)))::r)else fF (d+1 - n) r
 | d+1,_::r=>fF d r
def iz:Nat→List SV→Option (List SV)
 | 0,_=>some []
 | _+1,[]=>some []
 | _+1,.agg _::_=>none
 | d+1,.a_ k n a::r=>if d+1≤n then some [.a_ k (d+1) a]else(iz (d+1 - n) r).map (.a_ k n a:: ·)
 | d+1,v::r=>(iz d r).map (v:: ·)
def jS(c size:Nat)(cs:List SV):Option (List SV):=
 if c+size≤kW cs then
  match fF c cs with
  | some r=>iz size r
  | none=>none
 else none
def zV(c:Nat)(vs cs:List SV):Option (List SV):=
 if c+kW vs≤kW cs then
  match iz c cs,fF (c+kW vs) cs with
  | some a,some b=>some (a++vs++b)
  | _,_=>none
 else none
def je(agg:Bool)(cs:List SV):Option SV:=
 if agg then some (.agg cs)else
 match cs with
 | [.a_ k 1 a]=>some (.int k (gX a (.lit 0)))
 | [.a_ ..]=>none
 | [.agg _]=>none
 | [v]=>some v
 | _=>none
def SV.one:SV→Bool
 | .agg _=>false
 | .opt .. =>false
 | .undef=>false
 | .lp _=>false
 | _=>true
def eR:SV→Option (List SV)
 | .agg cs=>if cs.all SV.one then some cs else none
 | v=>if v.one then some [v]else none
mutual
def ofValue:Value→Option SV
 | .int k n=>some (.int k (.lit n))
 | .bool b=>some (.bool (.lit b))
 | .pointer none=>some .dR
 | .slice none 0 0=>some .bY
 | .nilFunc=>some .pE
 | .nilIface=>some .uQ
 | .map none=>some .iJ
 | .string ⟨⟨l⟩⟩=>some (.str l)
 | .tuple ⟨[]⟩=>some .undef
 | .agg ⟨l⟩=>(ofValues l).map .agg
 | _=>none
def ofValues:List Value→Option (List SV)
 | []=>some []
 | .agg _::_=>none
 | v::r=>match ofValue v,ofValues r with
  | some x,some xs=>some (x::xs)
  | _,_=>none
end
def jl(look:Nat→Option SV):Operand→Option SV
 | .tmp t=>look t
 | .const v=>ofValue v
 | .global _=>none
 | .func f=>some (.fn f [])
def Ck.sN(b:Nat):Ck→Bool
 | .row b' _ _=>b==b'
 | _=>false
def Ck.nP(v:Nat):Ck→Bool
 | .cy _ v' _ _ _ _=>v==v'
 | _=>false
def findAt(hp:List Ck)(b:Nat):Option (Nat×Ck):=
 match hp.findIdx? (Ck.sN b)with
 | some i=>(hp[i]?).map fun c=>(i,c)
 | none=>none
def ef(hp:List Ck)(v:Nat):Option (Nat×Ck):=
 match hp.findIdx? (Ck.nP v)with
 | some i=>(hp[i]?).map fun c=>(i,c)
 | none=>none
def inRange(i n:E):List BE:=
 [yM (.lit 0) i,Ie i n].filter fun b=>b != .lit true
def mkP:E→SV
 | .rT b=> .ptr b 0
 | .lit n=>if n=0 then .dR else .dh (.lit n)
 | e=> .dh e
def fw:E→Option Nat
 | .lit (.ofNat n)=>some n
 | _=>none
def El(c:cb)(i:E):Option SV:=
 match c.ck with
 | .int k=>if c.w=1 then some (.int k (gX c.a i))else some (.a_ k c.w (kQ c.a (qL i (.lit c.w))))
 | .bool=>if c.w=1 then some (.bool (RL (gX c.a i)))else none
 | .val v=>if c.w=1 then some (.FI v i)else none
 | .ptr=>if c.w=1 then some (mkP (gX c.a i))else none
 | .bY=>if c.w=1 then some .bY else none
 | .str=>if c.w=1 then some (mkStr (Ej c.a i))else none
 | .cv=>if c.w=1 then some (.Ny (gX c.a i))else none
 | .Ii l=>match fw i with
  | some k=>match l[k]? with
   | some n=>if c.w=1 then some (.vv n)else none
   | none=>none
  | none=>none
 | .pt j v=>if c.w=1∧j=i then some (.vv v)else none
def oZ(i:E):List cb→Option (List SV)
 | []=>some []
 | c::r=>match El c i,oZ i r with
  | some x,some xs=>some (x::xs)
  | _,_=>none
def cn(aA:List cb):Nat:=(aA.map cb.w).sum
def En(i:E)(v:SV)(c:cb):Option cb:=
 match c.ck,v with
 | .int k,.int k' e=>if c.w=1∧k=k' then some {c with a:= .bP c.a i e}else none
 | .int k,.a_ k' n b=>if c.w=n∧k=k' then some {c with a:= .Eg c.a (qL i (.lit n)) (.lit n) b}else none
 | .bool,.bool (.lit x)=>if c.w=1 then some {c with a:= .bP c.a i (.lit (if x then 1 else 0))}else none
 | .bool,.bool (.nz e)=>if c.w=1 then some {c with a:= .bP c.a i e}else none
 | .ptr,.ptr b o=>if c.w=1∧o=0 then some {c with a:= .bP c.a i (.rT b)}else none
 | .ptr,.dR=>if c.w=1 then some {c with a:= .bP c.a i (.lit 0)}else none
 | .ptr,.dh e=>if c.w=1 then some {c with a:= .bP c.a i e}else none
 | .bY,.bY=>if c.w=1 then some c else none
 | .str,.str l=>if c.w=1 then some {c with a:= .qJ c.a i (fZ l)}else none
 | .str,.lZ s=>if c.w=1 then some {c with a:= .qJ c.a i s}else none
 | .cv,.Ny e=>if c.w=1 then some {c with a:= .bP c.a i e}else none
 | .cv,.bY=>if c.w=1 then some {c with a:= .bP c.a i (.lit 0)}else none
 | .pt j _,.vv v=>if c.w=1∧j=i then some {c with ck:= .pt j v}else none
 | _,_=>none
def xM:Nat→E→List SV→Option (List IntKind×E)
 | _,acc,[]=>some ([],acc)
 | o,acc,.int k e::r=>match xM (o+1) (.bP acc (.lit o) e) r with
  | some (l,a)=>some (k::l,a)
  | none=>none
 | o,acc,.a_ k n b::r=>match xM (o+n) (.Eg acc (.lit o) (.lit n) b) r with
  | some (l,a)=>some (List.replicate n k++l,a)
  | none=>none
 | _,_,_=>none
def rowOf(cs:List SV):Option (List IntKind×E):=
 match cs with
 | [.a_ k n a]=>some (List.replicate n k,a)
 | [.int k e]=>some ([k],e)
 | cs=>xM 0 (.lit 0) cs
def align:List cb→List SV→Option (List SV)
 | _,[]=>some []
 | [],v::r=>some (v::r)
 | c::aA,v::r=>
  if v.width=c.w then(align aA r).map (v:: ·)else
  match c.ck,jS 0 c.w (v::r),fF c.w (v::r)with
  | .int k,some x,some rest=>
   match rowOf x with
   | some (kl,a)=>if kl=List.replicate c.w k then(align aA rest).map (.a_ k c.w a:: ·)else none
   | none=>none
  | _,_,_=>none
def o6(i:E):List SV→List cb→Option (List cb)
 | [],aA=>some aA
 | v::r,c::aA=>match En i v c,o6 i r aA with
  | some c',some aV=>some (c'::aV)
  | _,_=>none
 | _::_,[]=>none
def mD(i:E)(vs:List SV)(aA:List cb):Option (List cb):=
 match align aA vs with
 | some HV=>o6 i HV aA
 | none=>none
def o7(i:E)(vs:List SV):Nat→List cb→Option (List cb)
 | 0,aA=>mD i vs aA
 | _+1,[]=>none
 | o+1,c::r=>if c.w≤o+1 then(o7 i vs (o+1 - c.w) r).map (c:: ·)else none
def Kg(c:Nat)(cs:List SV):Option (List SV×IntKind×Nat×E×List SV):=
 if c≤kW cs then
  match fF c cs,iz c cs with
  | some (.a_ k n a::r),some pre=>some (pre,k,n,a,r)
  | _,_=>none
 else none
inductive Ch where
 | none
 | new (ck:Ck)
 | set (i:Nat) (ck:Ck)
 | app (i:Nat) (ck:Ck)
 | own (ck:Ck)
 | F1 (ck:Ck)
 deriving Repr
structure iC where
 val:SV
 vcs:List BE:=[]
 rd:List Nat:=[]
 ij:Ch:= .none
 deriving Repr
def wJ(o:BinOp)(x y:SV):Option iC:=
 match x,y with
 | .str a,.str b=>
  match o with
  | .add=>if a.length+b.length≤1000000 then some {val:= .str (a++b)}else none
  | .eql=>some {val:= .bool (.lit (a==b))}
  | .neq=>some {val:= .bool (.lit (!(a==b)))}
  | _=>none
 | x,y=>
  match qM x,qM y with
  | some a,some b=>
   match o with
   | .add=>some {val:= .lZ (LM a b),vcs:=Li (lD a)++Li (lD b)++[yM (dV (lD a) (lD b)) (.lit 9223372036854775807)]}
   | .eql=>some {val:= .bool (RK a b)}
   | .neq=>some {val:= .bool (iT (RK a b))}
   | _=>none
  | _,_=>none
 where Li (b:E):List BE:=[yM (.lit 0) b].filter fun b=>b != .lit true
def JX(v:SV)(j:E):Option iC:=
 match v with
 | .str l=>
  match j with
  | .lit (.ofNat i)=>if i<l.length then some {val:= .int .u8 (.lit (l.getD i 0).toNat)}else none
  | j=>some {val:= .int .u8 (gX (.qw (l.map fun b=>((b.toNat:Nat):Int))) j),vcs:=[yM (.lit 0) j,Ie j (.lit l.length)].filter fun b=>b != .lit true}
 | .lZ s=>some {val:= .int .u8 (gX (LJ s) j),vcs:=[yM (.lit 0) j,Ie j (lD s)].filter fun b=>b != .lit true}
 | _=>none
def uB(s a b:E):iC:={val:= .lZ (CX s a b),vcs:=Za (.lit 0) a++Za a b++Za b (lD s)}
 where Za (a b:E):List BE:=if a=b then []else [yM a b].filter fun b=>b != .lit true
def Bz(v:SV)(lo hi:Option E):Option iC:=
 match v with
 | .str l=>
  match lo.getD (.lit 0),hi.getD (.lit l.length)with
  | .lit (.ofNat a),.lit (.ofNat b)=>if a≤b∧b≤l.length then some {val:= .str ((l.take b).drop a)}else none
  | a,b=>some (uB (fZ l) a b)
 | .lZ s=>some (uB s (lo.getD (.lit 0)) (hi.getD (lD s)))
 | _=>none
structure cF where
 b:Nat:=0
 v:Nat:=0
 i:Nat:=0
 a:Nat:=0
 bo:Nat:=0
 p:Nat:=0
 r:Nat:=0
 deriving Repr,DecidableEq
def F4(b:Nat)(i:E)(s c:Nat):SV:=
 match fw i with
 | some n=> .ptr b (n*s+c)
 | none=> .qy b i s c
def eh(a b:E):List BE:=if a=b then []else [yM a b].filter fun b=>b != .lit true
def uX:Nat→E→List SV→Option E
 | _,acc,[]=>some acc
 | o,acc,.str l::r=>uX (o+1) (.qJ acc (.lit o) (fZ l)) r
 | o,acc,.lZ s::r=>uX (o+1) (.qJ acc (.lit o) s) r
 | _,_,_=>none
def NZ(cs:List SV):Option E:=uX 0 (.lit 0) cs
def zd(hp:List Ck)(agg:Bool)(size:Nat):SV→Option iC
 | .ptr b c=>
  match findAt hp b with
  | some (j,.row _ _ cs)=>
   match jS c size cs with
   | some x=>(je agg x).map fun v=>{val:=v,rd:=[j]}
   | none=>none
  | _=>none
 | .qy b i s c=>
  match findAt hp b with
  | some (j,.row _ _ cs)=>
   if s=1∧size=1∧agg=false then
    match Kg c cs with
    | some (_,k,n,a,_)=>some {val:= .int k (gX a i),vcs:=inRange i (.lit n),rd:=[j]}
    | none=>if c=0 then match NZ cs with
     | some a=>some {val:=mkStr (Ej a i),vcs:=inRange i (.lit cs.length),rd:=[j]}
     | none=>none
     else none
   else none
  | _=>none
 | .pv v i s c=>
  match ef hp v with
  | some (j,.cy _ _ _ s' n aA)=>
   if s=s'∧s=cn aA then
    if s<size then
     match aA with
     | [⟨.int k,1,a⟩]=>if c=0∧agg=true then some {val:= .agg [.a_ k size (kQ a i)],vcs:=eh (.lit 0) i++eh (dV i (.lit size)) n,rd:=[j]}else none
     | _=>none
    else
    match oZ i aA with
    | some es=>match jS c size es with
     | some y=>(je agg y).map fun x=>{val:=x,vcs:=inRange i n,rd:=[j]}
     | none=>none
    | none=>none
   else none
  | _=>none
 | _=>none
def z4(hp:List Ck)(size:Nat)(v:SV):SV→Option iC
 | .ptr b c=>
  match findAt hp b,eR v with
  | some (j,.row b' true cs),some vs=>
   if kW vs=size then
    (zV c vs cs).map fun wG=>{val:= .undef,rd:=[j],ij:= .set j (.row b' true wG)}
   else none
  | _,_=>none
 | .qy b i s c=>
  match findAt hp b,eR v with
  | some (j,.row b' true cs),some [.int k e]=>
   if s=1∧size=1 then
    match Kg c cs with
    | some (pre,k',n,a,post)=>if k=k' then some {val:= .undef,vcs:=inRange i (.lit n),rd:=[j],ij:= .set j (.row b' true (pre++ .a_ k n (.bP a i e)::post))}else none
    | none=>none
   else none
  | _,_=>none
 | .pv x i s c=>
  match ef hp x,eR v with
  | some (j,.cy true x' t s' n aA),some vs=>
   if s=s'∧s=cn aA∧0<size∧kW vs=size then
    (o7 i vs c aA).map fun aV=>{val:= .undef,vcs:=inRange i n,rd:=[j],ij:= .set j (.cy true x' t s' n aV)}
   else none
  | _,_=>none
 | _=>none
def mE:List SV→List SV→Option BE
 | [],[]=>some (.lit true)
 | .int k a::r,.int k' b::r'=>if k=k' then(mE r r').map (B1 (U4 a b))else none
 | .bool a::r,.bool b::r'=>(mE r r').map (B1 (FP a b (iT b)))
 | .a_ k n a::r,.a_ k' n' b::r'=>if k=k'∧n=n' then(mE r r').map (B1 (if a=b then .lit true else .TL n a b))else none
 | _,_=>none
def rW:List SV→List SV
 | []=>[]
 | .a_ k n a::r=>((ag5 n).map fun j:Nat=>SV.int k (gX a (.lit j)))++rW r
 | v::r=>v::rW r
def z_(a b:List SV):Option BE:=
 match mE a b with
 | some c=>some c
 | none=>mE (rW a) (rW b)
def ptrEq(k:TK)(x y:SV):Option BE:=
 match k,x,y with
 | .ptr _,.dR,.dR=>some (.lit true)
 | .ptr _,.dR,.ptr .. =>some (.lit false)
 | .ptr _,.ptr ..,.dR=>some (.lit false)
 | .ptr _,.dR,.qy .. =>some (.lit false)
 | .ptr _,.qy ..,.dR=>some (.lit false)
 | .ptr _,.dR,.dh e=>some (U4 e (.lit 0))
 | .ptr _,.dh e,.dR=>some (U4 e (.lit 0))
 | .slice _,.bY,.bY=>some (.lit true)
 | .slice _,.bY,.sl .. =>some (.lit false)
 | .slice _,.sl ..,.bY=>some (.lit false)
 | .func,.pE,.pE=>some (.lit true)
 | .func,.pE,.fn .. =>some (.lit false)
 | .func,.fn ..,.pE=>some (.lit false)
 | _,_,_=>none
def IntKind.lo:IntKind→Int
 | .i8=> -128 | .i16=> -32768 | .i32=> -2147483648 | .i64=> -9223372036854775808 | _=>0
def IntKind.hi:IntKind→Int
 | .i8=>127 | .i16=>32767 | .i32=>2147483647 | .i64=>9223372036854775807
 | .u8=>255 | .u16=>65535 | .u32=>4294967295 | .u64=>18446744073709551615
def wb:IntKind→Bool
 | .i8 | .i16 | .i32 | .i64=>true
 | _=>false
def z6(k:IntKind)(e:E):E×List BE:=
 match e with
 | .lit n=>(.lit (k.wrap n),[])
 | _=>if wb k then(e,[.le (.lit (IntKind.lo k)) e,.le e (.lit (IntKind.hi k))])else(.wrap k e,[])
def z7(k:IntKind)(e:E):E×List BE:=
 match e with
 | .wrap .u64 (.bin .sub .i64 (.lit 0) _)=>if wb k then(.wrap k e,[])else z6 k e
 | _=>z6 k e
def pO(b:E):List BE:=[yM (.lit 0) b].filter fun b=>b != .lit true
def ou(ti:TI)(o:BinOp)(x y:SV):Option iC:=
 match x,y with
 | .int k a,.int k' b=>
  match o with
  | .shl=>some {val:= .int k (wF .shl k a b),vcs:=pO b}
  | .shr=>some {val:= .int k (wF .shr k a b),vcs:=pO b}
  | _=>
  if k≠k' then none else
  match o with
  | .add=>let (e,vc):=z6 k (dV a b);some {val:= .int k e,vcs:=vc}
  | .sub=>let (e,vc):=z6 k (tT a b);some {val:= .int k e,vcs:=vc}
  | .mul=>let (e,vc):=z6 k (qL a b);some {val:= .int k e,vcs:=vc}
  | .quo=>some {val:= .int k (NV k (wF .quo k a b)),vcs:=[RL b]}
  | .rem=>some {val:= .int k (wF .rem k a b),vcs:=[RL b]}
  | .and=>some {val:= .int k (wF .oT k a b)}
  | .or=>some {val:= .int k (wF .om k a b)}
  | .xor=>some {val:= .int k (wF .eH k a b)}
  | .andNot=>some {val:= .int k (wF .RF k a b)}
  | .eql=>some {val:= .bool (U4 a b)}
  | .neq=>some {val:= .bool (iT (U4 a b))}
  | .lss=>some {val:= .bool (Ie a b)}
  | .leq=>some {val:= .bool (yM a b)}
  | .gtr=>some {val:= .bool (Ie b a)}
  | .geq=>some {val:= .bool (yM b a)}
  | _=>none
 | .bool a,.bool b=>
  if ti.k≠ .bool then none else
  match o with
  | .eql=>some {val:= .bool (FP a b (iT b))}
  | .neq=>some {val:= .bool (iT (FP a b (iT b)))}
  | _=>none
 | .agg a,.agg b=>
  if !ti.k.agg||ti.lay.isEmpty|| !(qU a (lE ti.lay))|| !(qU b (lE ti.lay))then none else
  match o,z_ a b with
  | .eql,some c=>some {val:= .bool c}
  | .neq,some c=>some {val:= .bool (iT c)}
  | _,_=>none
 | a,b=>
  if ti.k= .str then wJ o a b else
  match o,ptrEq ti.k a b with
  | .eql,some c=>some {val:= .bool c}
  | .neq,some c=>some {val:= .bool (iT c)}
  | _,_=>none
def lu(place:Nat→Option (Nat×Nat))(cells:List SV):List (Nat×List SV)→Option (List SV)
 | []=>some cells
 | (i,cs)::r=>
  match place i with
  | some (off,size)=>
   if kW cs=size then
    match zV off cs cells with
    | some WG=>lu place WG r
    | none=>none
   else none
  | none=>none
def hG(T:List TI)(fs:List (Nat×Nat))(i:Nat):Option (Nat×Nat):=
 match fs[i]? with
 | some (t,off)=>(aW T t).map fun ti=>(off,ti.size)
 | none=>none
def kV(size:Nat)(i:Nat):Option (Nat×Nat):=some (i*size,size)
def qW(T:List TI)(fs:List (Nat×Nat)):Bool:=fs.all fun f=>(aW T f.1).isSome
def partsOf(look:Nat→Option SV):List (Nat×Operand)→Option (List (Nat×List SV))
 | []=>some []
 | (i,x)::r=>
  match jl look x,partsOf look r with
  | some v,some rest=>(eR v).map fun cs=>(i,cs)::rest
  | _,_=>none
def jV:List (Option SV)→Option (List SV)
 | []=>some []
 | some v::r=>(jV r).map (v:: ·)
 | none::_=>none
def Fc(c:BE)(a b:SV):Option SV:=
 match c with
 | .lit true=>some a
 | .lit false=>some b
 | c=>
  match a,b with
  | .bool x,.bool y=>some (.bool (FP c x y))
  | .bool x,.opt g (.bool y)=>if g=iT c then some (.bool (FP c x y))else none
  | .opt g (.bool x),.bool y=>if g=c then some (.bool (FP c x y))else none
  | _,_=>none
structure Part where
 lo:E
 len:E
 mx:Option E
 deriving Repr
def gS(n:E)(p:Part)(c:Cut):Part×List BE:=
 (⟨dV p.lo c.lo,tT c.hi c.lo,match c.mx with | some m=>some (dV p.lo m) | none=>p.mx⟩,
  eh (.lit 0) c.lo++eh c.lo c.hi++
  match c.mx,p.mx with
  | none,none=>eh (dV p.lo c.hi) n
  | none,some m0=>eh (dV p.lo c.hi) m0
  | some m,none=>eh c.hi m++eh (dV p.lo m) n
  | some m,some m0=>eh c.hi m++eh (dV p.lo m) m0)
def t_(n:E):List Cut→Part→Part×List BE
 | [],p=>(p,[])
 | c::r,p=>((t_ n r (gS n p c).1).1,(gS n p c).2++(t_ n r (gS n p c).1).2)
structure Rt where
 j:Nat
 md:Bool
 v:Nat
 t:Nat
 s:Nat
 n:E
 aA:List cb
 p:Part
 vcs:List BE
def gJ(hp:List Ck):SV→Option Rt
 | .vv v=>match ef hp v with
  | some (j,.cy md _ t s n aA)=>some ⟨j,md,v,t,s,n,aA,⟨.lit 0,n,none⟩,[]⟩
  | _=>none
 | .ji v cs s'=>match ef hp v with
  | some (j,.cy md _ t s n aA)=>if s=s' then some ⟨j,md,v,t,s,n,aA,(t_ n cs ⟨.lit 0,n,none⟩).1,(t_ n cs ⟨.lit 0,n,none⟩).2⟩else none
  | _=>none
 | _=>none
def JY(hp:List Ck)(k:TK)(v:SV):Option iC:=
 match k with
 | .slice _=>
  match v with
  | .sl _ _ _ n _=>some {val:= .int .i64 n,vcs:=pO n}
  | .bY=>some {val:= .int .i64 (.lit 0)}
  | .vv v=>
   match ef hp v with
   | some (j,.cy _ _ _ _ n _)=>some {val:= .int .i64 n,vcs:=pO n,rd:=[j]}
   | _=>none
  | .ji v cs s=>
   match gJ hp (.ji v cs s)with
   | some r=>some {val:= .int .i64 r.p.len,vcs:=r.vcs++eh (.lit 0) r.p.len,rd:=[r.j]}
   | none=>none
  | _=>none
 | .str=>
  match v with
  | .str l=>some {val:= .int .i64 (.lit l.length)}
  | .lZ s=>some {val:= .int .i64 (lD s),vcs:=pO (lD s)}
  | _=>none
 | _=>none
mutual
def xC(T:List TI):Nat→Nat→Option (List cb)
 | 0,_=>none
 | d+1,t=>
  match aW T t with
  | some {k:= .int k,.. }=>some [⟨.int k,1,.lit 0⟩]
  | some {k:= .bool,.. }=>some [⟨.bool,1,.lit 0⟩]
  | some {k:= .ptr _,.. }=>some [⟨.ptr,1,.lit 0⟩]
  | some {k:= .slice _,.. }=>some [⟨.bY,1,.lit 0⟩]
  | some {k:= .str,.. }=>some [⟨.str,1,.lit 0⟩]
  | some {k:= .arr n e,.. }=>match aW T e with
   | some {k:= .int k,.. }=>some [⟨.int k,n,.lit 0⟩]
   | _=>none
  | some {k:= .struct fs,.. }=>Lj T d fs
  | _=>none
def Lj(T:List TI):Nat→List (Nat×Nat)→Option (List cb)
 | 0,_=>none
 | _+1,[]=>some []
 | d+1,(t,_)::r=>match xC T d t,Lj T d r with
  | some a,some b=>some (a++b)
  | _,_=>none
end
def xD(T:List TI)(hp:List Ck)(nv:Nat)(k:TK)(x y:SV):Option iC:=
 match x,y with
 | .vv v,.sl b i s m _=>
  match ef hp v,findAt hp b with
  | some (j,.cy true _ t s' n aA),some (j',.row _ _ cs)=>
   match mD n cs aA,aW T t with
   | some aV,some te=>
    if i= .lit 0∧m= .lit 1∧k= .slice t∧s=s'∧s=cn aA∧kW cs=s∧0<s∧cs.all SV.one=true∧te.size=s then
     some {val:= .vv nv,vcs:=pO n++[.le (.bin .mul .i64 (.bin .add .i64 n (.lit 1)) (.lit (max 1 te.bytes:Nat))) (.lit 140737488355328)],rd:=[j,j'],ij:= .app j (.cy true nv t s (dV n (.lit 1)) aV)}
    else none
   | _,_=>none
  | _,_=>none
 | .bY,.sl b i s m _=>
  match findAt hp b,k with
  | some (j',.row _ _ cs),.slice t=>
   match aW T t,xC T 30 t with
   | some te,some aA=>
    match mD (.lit 0) cs aA with
    | some aV=>
     if i= .lit 0∧m= .lit 1∧s=cn aA∧kW cs=s∧0<s∧cs.all SV.one=true∧te.size=s∧te.bytes≤140737488355328 then
      some {val:= .vv nv,rd:=[j'],ij:= .own (.cy true nv t s (.lit 1) aV)}
     else none
    | none=>none
   | _,_=>none
  | _,_=>none
 | _,_=>none
def Ah(x:SV)(c:Cut)(s:Nat):Option SV:=
 match x with
 | .vv v=>some (.ji v [c] s)
 | .ji v cs s'=>if s=s' then some (.ji v (cs++[c]) s)else none
 | _=>none
def Aj(T:List TI)(hp:List Ck)(k:TK)(x:SV)(lo hi mx:Option E):Option iC:=
 if mx.isSome&&hi.isNone then none else
 match k,x with
 | .slice e,.sl b i s n m=>
  match aW T e with
  | some te=>
   if te.size=s then
    let l:=lo.getD (.lit 0)
    let h:=hi.getD n
    let mm:=mx.getD m
    some {val:= .sl b (dV i l) s (tT h l) (tT mm l),vcs:=eh (.lit 0) i++eh (.lit 0) l++eh l h++eh h mm++eh mm m++eh (.lit 0) n++(if l= .lit 0 then []else [Ie l mm].filter fun b=>b != .lit true)}
   else none
  | none=>none
 | .slice e,.bY=>
  match aW T e with
  | some _=>if lo.getD (.lit 0)= .lit 0∧hi.getD (.lit 0)= .lit 0∧mx.getD (.lit 0)= .lit 0 then some {val:= .bY}else none
  | none=>none
 | .slice e,x=>
  match aW T e,gJ hp x with
  | some te,some r=>
   if te.size=r.s then
    let c:Cut:=⟨lo.getD (.lit 0),hi.getD r.p.len,mx⟩
    match Ah x c r.s with
    | some v=>some {val:=v,vcs:=r.vcs++(gS r.n r.p c).2,rd:=[r.j]}
    | none=>none
   else none
  | _,_=>none
 | .arr n e,.ptr b c=>
  match aW T e with
  | some te=>
   if te.size≠0∧c%te.size=0 then
    let l:=lo.getD (.lit 0)
    let h:=hi.getD (.lit n)
    let mm:=mx.getD (.lit n)
    some {val:= .sl b (dV (.lit (c/te.size:Nat)) l) te.size (tT h l) (tT mm l),vcs:=eh (.lit 0) l++eh l h++eh h mm++eh mm (.lit n)++(if l= .lit 0 then []else [Ie l mm].filter fun b=>b != .lit true)}
   else none
  | none=>none
 | _,_=>none
def Hz(lo:E)(c:cb):Option cb:=
 match c.ck with
 | .val _=>if lo= .lit 0 then some c else none
 | .Ii _=>if lo= .lit 0 then some c else none
 | .pt _ _=>if lo= .lit 0 then some c else none
 | .str=>if lo= .lit 0 then some c else none
 | _=>some {c with a:=kQ c.a (qL lo (.lit c.w))}
def iF(lo:E):List cb→Option (List cb)
 | []=>some []
 | c::r=>match Hz lo c,iF lo r with
  | some a,some b=>some (a::b)
  | _,_=>none
def JZ(at_ m:E)(d s:cb):Option cb:=
 if d.w≠s.w then none else
 match d.ck,s.ck with
 | .int k,.int k'=>if k=k' then some {d with a:= .Eg d.a (qL at_ (.lit d.w)) (qL m (.lit d.w)) s.a}else none
 | .bool,.bool=>some {d with a:= .Eg d.a (qL at_ (.lit d.w)) (qL m (.lit d.w)) s.a}
 | .ptr,.ptr=>some {d with a:= .Eg d.a (qL at_ (.lit d.w)) (qL m (.lit d.w)) s.a}
 | .bY,.bY=>some d
 | .str,.str=>if m= .lit 1∧d.w=1 then some {d with a:= .qJ d.a at_ (Ej s.a (.lit 0))}else if m= .lit 0 then some d else none
 | _,_=>none
def gV(at_ m:E):List cb→List cb→Option (List cb)
 | [],[]=>some []
 | d::r,s::r'=>match JZ at_ m d s,gV at_ m r r' with
  | some a,some b=>some (a::b)
  | _,_=>none
 | _,_=>none
structure Src where
 rd:List Nat
 vcs:List BE
 n:E
 aA:List cb
def wc(s:Nat):Nat→Nat→List SV→List cb→Option (List cb)
 | 0,_,_,aA=>some aA
 | k+1,i,cs,aA=>
  match jS 0 s cs,fF s cs with
  | some a,some b=>match mD (.lit i) a aA with
   | some aV=>wc s k (i+1) b aV
   | none=>none
  | _,_=>none
def D3(T:List TI)(hp:List Ck)(te:TI)(y:SV):Option Src:=
 match y with
 | .bY=>match xC T 30 te.t with
  | some aA=>if te.size=cn aA then some ⟨[],[],.lit 0,aA⟩else none
  | none=>none
 | .sl b i s m _=>
  match findAt hp b with
  | some (j,.row _ _ cs)=>
   if s≠te.size then none else
   match fw i,fw m with
   | some i0,some m0=>
    match jS (i0*s) (m0*s) cs with
    | some [.a_ k N a]=>if s=1∧N=m0 then some ⟨[j],[],.lit m0,[⟨.int k,1,a⟩]⟩else none
    | some x=>
     if x.all SV.one then
      match xC T 30 te.t with
      | some aA=>if s=cn aA then(wc s m0 0 x aA).map fun aV=>⟨[j],[],.lit m0,aV⟩else none
      | none=>none
     else none
    | none=>none
   | _,_=>
    match cs with
    | [.a_ k N a]=>if s=1 then some ⟨[j],eh (.lit 0) i++eh (.lit 0) m++eh (dV i m) (.lit N),m,[⟨.int k,1,kQ a i⟩]⟩else none
    | _=>none
  | _=>none
 | x=>
  match gJ hp x with
  | some r=>
   if r.s=te.size∧r.s=cn r.aA then
    (iF r.p.lo r.aA).map fun aA=>⟨[r.j],r.vcs++eh (.lit 0) r.p.len,r.p.len,aA⟩
   else none
  | none=>none
def qk(n:E)(bytes:Nat):BE:=yM (qL n (.lit (max 1 bytes:Nat))) (.lit 140737488355328)
def QO(y:SV)(v:Nat):Bool:=
 match y with
 | .vv v'=>v'==v
 | .ji v' _ _=>v'==v
 | _=>false
def TA:SV→Bool
 | .ji _ [⟨_,hi,some m⟩] _=>hi==m
 | _=>false
def uC(T:List TI)(hp:List Ck)(nv:Nat)(k:TK)(x y:SV):Option iC:=
 match k with
 | .slice t=>
  match aW T t with
  | some te=>
   match D3 T hp te y with
   | some sc=>
    if te.size=0 then none else
    match x with
    | .bY=>some {val:= .vv nv,vcs:=sc.vcs++eh (.lit 0) sc.n++[qk sc.n te.bytes],rd:=sc.rd,ij:= .own (.cy true nv t te.size sc.n sc.aA)}
    | .sl b i s n m=>
     match D3 T hp te (.sl b i s n m),fw sc.n with
     | some x,some (_+1)=>
      if x.n=n∧n=m∧s=te.size then
       (gV n sc.n x.aA sc.aA).map fun aV=>{val:= .vv nv,vcs:=x.vcs++sc.vcs++eh (.lit 0) n++[qk (dV n sc.n) te.bytes],rd:=x.rd++sc.rd,ij:= .own (.cy true nv t te.size (dV n sc.n) aV)}
      else none
     | _,_=>none
    | x=>
     match gJ hp x with
     | some r=>
      if r.t=t∧r.s=te.size∧r.s=cn r.aA∧r.md=true then
       if QO y r.v&& !TA x then
        match x,gV (dV r.p.lo r.p.len) sc.n r.aA sc.aA with
        | .ji v [⟨lo,hi,none⟩] s,some aV=>
         some {val:= .ji v [⟨lo,dV hi sc.n,none⟩] s,vcs:=r.vcs++sc.vcs++eh (.lit 0) sc.n++eh (dV hi sc.n) r.n,rd:=r.j::sc.rd,ij:= .set r.j (.cy true r.v t r.s r.n aV)}
        | _,_=>none
       else
        match iF r.p.lo r.aA with
        | some rc=>
         match (if r.p.len= .lit 0 then some sc.aA else gV r.p.len sc.n rc sc.aA)with
         | some aV=>
          some {val:= .vv nv,vcs:=r.vcs++sc.vcs++eh (.lit 0) r.p.len++eh (.lit 0) sc.n++[qk (dV r.p.len sc.n) te.bytes],rd:=r.j::sc.rd,ij:= .app r.j (.cy true nv t r.s (dV r.p.len sc.n) aV)}
         | none=>none
        | none=>none
      else none
     | none=>none
   | none=>none
  | none=>none
 | _=>none
def j8:List SV→List cb→Bool
 | [],[]=>true
 | .int k (.lit 0)::r,⟨.int k',w,.lit 0⟩::aA=>k==k'&&w==1&&j8 r aA
 | .bool (.lit false)::r,⟨.bool,w,.lit 0⟩::aA=>w==1&&j8 r aA
 | .a_ k n (.lit 0)::r,⟨.int k',w,.lit 0⟩::aA=>k==k'&&w==n&&j8 r aA
 | .dR::r,⟨.ptr,w,.lit 0⟩::aA=>w==1&&j8 r aA
 | .bY::r,⟨.bY,w,_⟩::aA=>w==1&&j8 r aA
 | .str []::r,⟨.str,w,.lit 0⟩::aA=>w==1&&j8 r aA
 | _,_=>false
def ig(T:List TI)(te:TI):Option (List cb):=
 match xC T 30 te.t with
 | some aA=>if j8 te.zero aA&&cn aA==te.size&& !(te.size==0)then some aA else none
 | none=>none
def BA(T:List TI)(hp:List Ck)(k:TK)(x:SV):Option iC:=
 match k,x with
 | .slice _,.bY=>some {val:= .undef}
 | .slice e,x=>
  match aW T e,gJ hp x with
  | some te,some r=>
   match ig T te with
   | some z=>
    if r.s=te.size∧r.s=cn r.aA∧r.md=true then
     (gV r.p.lo r.p.len r.aA z).map fun aV=>{val:= .undef,vcs:=r.vcs++eh (.lit 0) r.p.len,rd:=[r.j],ij:= .set r.j (.cy true r.v r.t r.s r.n aV)}
    else none
   | none=>none
  | _,_=>none
 | _,_=>none
def y2:E→E→E
 | .lit a,.lit b=> .lit (min a b)
 | a,b=>if a=b then a else .bin .U0 .i64 a b
def Ff(T:List TI)(hp:List Ck)(k:TK)(x y:SV):Option iC:=
 match k with
 | .slice t=>
  match aW T t with
  | some te=>
   match D3 T hp te y with
   | some sc=>
    match x with
    | .sl b i s n _=>
     match findAt hp b with
     | some (j,.row b' true cs)=>
      if s≠te.size∨s=0 then none else
      match cs with
      | [.a_ k N a]=>
       match sc.aA with
       | [⟨.int k',1,a'⟩]=>
        if s=1∧k=k' then
         some {val:= .int .i64 (y2 sc.n n),vcs:=sc.vcs++eh (.lit 0) sc.n++eh (.lit 0) i++eh (.lit 0) n++eh (dV i n) (.lit N),rd:=j::sc.rd,ij:= .set j (.row b' true [.a_ k N (.Eg a i (y2 sc.n n) a')])}
        else none
       | _=>none
      | _=>
       match fw i,fw n,fw sc.n,sc.aA with
       | some i0,some n0,some m0,[⟨.int k',1,a'⟩]=>
        if s=1 then
         (zV i0 [.a_ k' (min m0 n0) a'] cs).map fun wG=>{val:= .int .i64 (.lit (min m0 n0:Nat)),vcs:=sc.vcs,rd:=j::sc.rd,ij:= .set j (.row b' true wG)}
        else none
       | _,_,_,_=>none
     | _=>none
    | x=>
     match gJ hp x with
     | some r=>
      if r.t=t∧r.s=te.size∧r.s=cn r.aA∧r.md=true∧0<r.s then
       (gV r.p.lo (y2 sc.n r.p.len) r.aA sc.aA).map fun aV=>
        {val:= .int .i64 (y2 sc.n r.p.len),vcs:=r.vcs++sc.vcs++eh (.lit 0) r.p.len++eh (.lit 0) sc.n,rd:=r.j::sc.rd,ij:= .set r.j (.cy true r.v t r.s r.n aV)}
      else none
     | none=>none
   | none=>none
  | none=>none
 | _=>none
def Fg(T:List TI)(nv:Nat)(k:TK)(n c:E):Option iC:=
 match k with
 | .slice t=>
  match aW T t with
  | some te=>
   match ig T te with
   | some z=>some {val:= .vv nv,vcs:=eh (.lit 0) n++eh n c++[qk c te.bytes],ij:= .own (.cy true nv t te.size n z)}
   | none=>none
  | none=>none
 | _=>none
def Ey(T:List TI)(hp:List Ck)(nv:Nat)(k:TK)(x:SV)(m:E):Option iC:=
 match k,x with
 | .slice t,.vv v=>
  match aW T t,ef hp v with
  | some te,some (j,.cy true _ t' s n aA)=>
   match ig T te with
   | some z=>
    match gV n m aA z with
    | some aV=>
     if t'=t∧s=te.size∧s=cn aA then
      some {val:= .vv nv,vcs:=eh (.lit 0) n++eh (.lit 0) m++[qk (dV n m) te.bytes],rd:=[j],ij:= .app j (.cy true nv t s (dV n m) aV)}
     else none
    | none=>none
   | none=>none
  | _,_=>none
 | .slice t,.bY=>
  match aW T t with
  | some te=>
   match ig T te with
   | some z=>
    if te.size=cn z then
     some {val:= .vv nv,vcs:=eh (.lit 0) m++[qk m te.bytes],ij:= .own (.cy true nv t te.size m z)}
    else none
   | none=>none
  | none=>none
 | _,_=>none
def wS(T:List TI)(hp:List Ck)(nv:Nat)(k:TK)(x y:SV):Option iC:=
 match k,x with
 | .slice t,.sl b i s n m=>
  match aW T t,findAt hp b,fw i,fw n with
  | some te,some (j,.row _ true cs),some 0,some q=>
   match rowOf cs,D3 T hp te y with
   | some (ki::kl,a),some sc=>
    if n=m∧s=1∧te.size=1∧kl.length+1=q∧ki::kl=List.replicate q ki then
     (gV (.lit q) sc.n [⟨.int ki,1,a⟩] sc.aA).map fun aV=>
      {val:= .vv nv,vcs:=sc.vcs++eh (.lit 0) sc.n++[qk (dV (.lit q) sc.n) te.bytes],rd:=j::sc.rd,ij:= .app j (.cy true nv t 1 (dV (.lit q) sc.n) aV)}
    else none
   | _,_=>none
  | _,_,_,_=>none
 | _,_=>none
def zf:List SV→Option (List Nat)
 | []=>some []
 | .vv i::r=>(zf r).map (i:: ·)
 | _=>none
def vg(hp:List Ck):SV→Option (Nat×List Nat)
 | .sl b i _ n _=>
  match findAt hp b,fw i,fw n with
  | some (j,.row _ _ cs),some 0,some q=>
   match zf cs with
   | some l=>if l.length=q then some (j,l)else none
   | none=>none
  | _,_,_=>none
 | _=>none
def wT(T:List TI)(hp:List Ck)(nv:Nat)(k:TK)(x y:SV):Option iC:=
 match k,x with
 | .slice t,.sl b i s n m=>
  match aW T t,vg hp (.sl b i s n m),vg hp y with
  | some te,some (j,l),some (j',l')=>
   if n=m∧te.size=1∧l'.length≠0∧(l.length+l'.length)*te.bytes≤140737488355328∧l.length+l'.length≤140737488355328 then
    some {val:= .vv nv,rd:=[j,j'],ij:= .own (.cy true nv t 1 (.lit (l.length+l'.length:Nat)) [⟨.Ii (l++l'),1,.lit 0⟩])}
   else none
  | _,_,_=>none
 | _,_=>none
def xE(T:List TI)(hp:List Ck)(nv:Nat)(tt:TI)(ts Xc:Nat)(x y:SV):Option iC:=
 if ts=Xc then(match xD T hp nv tt.k x y with | some r=>some r | none=>match uC T hp nv tt.k x y with | some r=>some r | none=>match wS T hp nv tt.k x y with | some r=>some r | none=>wT T hp nv tt.k x y)else(match aW T Xc,y with
    | some ti,.int _ m=>match ti.k with
     | .int _=>Ey T hp nv tt.k x m
     | _=>none
    | _,_=>none)
def N9(a:E)(i:Nat):Option Int:=
 match gX a (.lit i)with
 | .lit n=>some n
 | _=>none
def wN(a:E):Nat→Option (List Int)
 | 0=>some []
 | n+1=>match wN a n,N9 a n with
  | some l,some x=>some (l++[x])
  | _,_=>none
def Rj(n:Nat)(a:E):E:=
 match wN a n with
 | some l=> .lit (bG l:Nat)
 | none=> .kc n a
def uc:List gR→Option (List IntKind)
 | []=>some []
 | some k::r=>(uc r).map (k:: ·)
 | none::_=>none
def rh(ti:TI):Option (List IntKind×Bool):=
 match ti.k with
 | .int k=>some ([k],false)
 | .struct _=>if ti.lay.isEmpty then none else(uc (lE ti.lay)).map fun l=>(l,true)
 | .arr .. =>if ti.lay.isEmpty then none else(uc (lE ti.lay)).map fun l=>(l,true)
 | _=>none
def u9(ka:Bool)(k:SV):Option (List SV):=
 match ka,k with
 | true,.agg cs=>some cs
 | false,.int q e=>some [.int q e]
 | _,_=>none
def wO(T:List TI)(te:TI):Option (List cb):=
 if te.size=0 then(if te.zero.isEmpty&&te.k.agg then some []else none)else ig T te
def Ck.isMap(b:Nat):Ck→Bool
 | .map b' .. =>b==b'
 | .ow b' .. =>b==b'
 | _=>false
def ze(hp:List Ck)(b:Nat):Option (Nat×Ck):=
 match hp.findIdx? (Ck.isMap b)with
 | some i=>(hp[i]?).map fun c=>(i,c)
 | none=>none
def fG:List SV→List SV→Bool
 | [],[]=>true
 | .int k (.lit n)::r,.int k' (.lit m)::s=>k==k'&&n==m&&fG r s
 | .bool (.lit a)::r,.bool (.lit b)::s=>a==b&&fG r s
 | .a_ k n (.lit a)::r,.a_ k' n' (.lit b)::s=>k==k'&&n==n'&&a==b&&fG r s
 | .dR::r,.dR::s=>fG r s
 | .bY::r,.bY::s=>fG r s
 | .pE::r,.pE::s=>fG r s
 | .uQ::r,.uQ::s=>fG r s
 | .iJ::r,.iJ::s=>fG r s
 | .str l::r,.str l'::s=>l==l'&&fG r s
 | _,_=>false
def TK.isSlice:TK→Bool
 | .slice _=>true
 | _=>false
def ud(T:List TI)(nb t:Nat):Option iC:=
 match aW T t with
 | some {k:= .map kt vt,.. }=>
  match aW T kt,aW T vt with
  | some tk,some tv=>
   match rh tk,(if tv.k.isSlice then none else wO T tv)with
   | some (kl,ka),some aA=>some {val:= .mp nb,ij:= .new (.map nb kl ka tv.k.agg tv.zero (.lit 0) aA)}
   | some (kl,ka),none=>some {val:= .mp nb,ij:= .new (.ow nb kl ka tv.k.agg tv.zero [])}
   | _,_=>none
  | _,_=>none
 | _=>none
def wQ(T:List TI)(hp:List Ck)(t:Nat)(x k:SV)(comma:Bool):Option iC:=
 match aW T t with
 | some {k:= .map kt vt,.. }=>
  match aW T kt,aW T vt with
  | some tk,some tv=>
   match rh tk with
   | some (kl,ka)=>
    match u9 ka k with
    | some kc=>
     match rowOf kc with
     | some (NC,a)=>
      if NC≠kl then none else
      match x with
      | .iJ=>(je tv.k.agg tv.zero).map fun v=>{val:=if comma then .lp [v,.bool (.lit false)]else v}
      | .mp b=>
       match ze hp b with
       | some (j,.map _ Am Oa L8 C5 has aA)=>
        if Am=kl∧Oa=ka∧L8=tv.k.agg∧fG C5 tv.zero=true then
         match oZ (Rj kl.length a) aA with
         | some es=>(je tv.k.agg es).map fun v=>{val:=if comma then .lp [v,.bool (RL (gX has (Rj kl.length a)))]else v,rd:=[j]}
         | none=>none
        else none
       | some (j,.ow _ Am Oa L8 C5 es)=>
        if Am=kl∧Oa=ka∧L8=tv.k.agg∧fG C5 tv.zero=true then
         match Rj kl.length a with
         | .lit n=>(je tv.k.agg (oz es C5 n.toNat)).map fun v=>{val:=if comma then .lp [v,.bool (.lit (qV es n.toNat))]else v,rd:=[j]}
         | _=>none
        else none
       | _=>none
      | _=>none
     | none=>none
    | none=>none
   | none=>none
  | _,_=>none
 | _=>none
def Ex:SV→Bool
 | .agg _=>true
 | .a_ .. =>true
 | _=>false
def sd(T:List TI)(hp:List Ck)(t:Nat)(x k v:SV):Option iC:=
 match aW T t with
 | some {k:= .map kt vt,.. }=>
  match aW T kt,aW T vt with
  | some tk,some tv=>
   match rh tk with
   | some (kl,ka)=>
    match u9 ka k,eR v with
    | some kc,some vs=>
     match rowOf kc,x with
     | some (NC,a),.mp b=>
      match ze hp b with
      | some (j,.map b' Am Oa L8 zero has aA)=>
       if NC=kl∧Am=kl∧Oa=ka∧L8=tv.k.agg∧kW vs=cn aA∧Ex v=tv.k.agg then
        match mD (Rj kl.length a) vs aA with
        | some aV=>some {val:= .undef,rd:=[j],ij:= .set j (.map b' kl ka L8 zero (.bP has (Rj kl.length a) (.lit 1)) aV)}
        | none=>none
       else none
      | some (j,.ow b' Am Oa L8 zero es)=>
       if NC=kl∧Am=kl∧Oa=ka∧L8=tv.k.agg∧Ex v=tv.k.agg then
        match Rj kl.length a with
        | .lit n=>some {val:= .undef,rd:=[j],ij:= .set j (.ow b' kl ka L8 zero (Cd n.toNat vs es))}
        | _=>none
       else none
      | _=>none
     | _,_=>none
    | _,_=>none
   | none=>none
  | _,_=>none
 | _=>none
def bytesOf(T:List TI)(nv:Nat)(k:TK)(v:SV):Option iC:=
 match k with
 | .slice e=>
  match aW T e,qM v with
  | some te,some s=>if te.k= .int .u8∧te.size=1 then some {val:= .vv nv,vcs:=[yM (.lit 0) (lD s)].filter (fun b=>b != .lit true),ij:= .F1 (.cy false nv e 1 (lD s) [⟨.int .u8,1,LJ s⟩])}else none
  | _,_=>none
 | _=>none
def BB(T:List TI)(nv:Nat)(k:TK)(l:List UInt8):Option iC:=
 match k with
 | .slice e=>
  match aW T e with
  | some te=>if te.k= .int .u8∧te.size=1∧l.length≤1000 then some {val:= .vv nv,ij:= .own (.cy true nv e 1 (.lit l.length) [⟨.int .u8,1,.qw (l.map fun b=>(b.toNat:Int))⟩])}else none
  | none=>none
 | _=>none
def sG(a n:E):E:=
 match fw n with
 | some k=>match wN a k with
  | some l=> .qw ((k:Int)::l)
  | none=>tV a n
 | none=>tV a n
def Fh(hp:List Ck):SV→Option iC
 | .bY=>some {val:= .str []}
 | .sl b i 1 n _=>
  match findAt hp b,fw i,fw n with
  | some (j,.row _ _ cs),some i,some n=>
   match jS i n cs with
   | some xs=>
    match rowOf xs with
    | some (kl,a)=>if kl=List.replicate n .u8 then some {val:=mkStr (sG a (.lit n)),rd:=[j]}else none
    | none=>none
   | none=>none
  | some (j,.row _ _ [.a_ .u8 m a]),some 0,none=>some {val:=mkStr (sG a n),vcs:=[yM n (.lit m)].filter (fun b=>b != .lit true),rd:=[j]}
  | _,_,_=>none
 | .vv v=>
  match ef hp v with
  | some (j,.cy _ _ _ 1 n [⟨.int .u8,1,a⟩])=>some {val:=mkStr (sG a n),rd:=[j]}
  | _=>none
 | .ji v cs s=>
  match gJ hp (.ji v cs s)with
  | some r=>match iF r.p.lo r.aA with
   | some [⟨.int .u8,1,a⟩]=>if r.s=1∧r.s=cn r.aA then some {val:=mkStr (sG a r.p.len),vcs:=r.vcs++eh (.lit 0) r.p.len,rd:=[r.j]}else none
   | _=>none
  | none=>none
 | _=>none
def pA(T:List TI)(hp:List Ck)(src:TypeId)(v:SV):Option iC:=
 match aW T src with
 | some ts=>
  match ts.k with
  | .slice e=>
   match aW T e with
   | some te=>if te.k= .int .u8 then Fh hp v else none
   | none=>none
  | _=>none
 | none=>none
def BC(ti:TI)(op:BinOp)(y:Operand)(a:SV):Option iC:=
 match ti.k,y,a with
 | .iface,.const .nilIface,.uQ=>
  match op with
  | .eql=>some {val:= .bool (.lit true)}
  | .neq=>some {val:= .bool (.lit false)}
  | _=>none
 | .iface,.const .nilIface,.NP .. =>
  match op with
  | .eql=>some {val:= .bool (.lit false)}
  | .neq=>some {val:= .bool (.lit true)}
  | _=>none
 | .iface,.const .nilIface,.Ia c _=>
  match op with
  | .eql=>some {val:= .bool (iT c)}
  | .neq=>some {val:= .bool c}
  | _=>none
 | _,_,_=>none
def Ag(look:Nat→Option SV):Option Operand→Option (Option E)
 | none=>some none
 | some o=>match jl look o with
  | some (.int _ e)=>some (some e)
  | _=>none
def Ck.Zb(b:Nat):Ck→Bool
 | .NA b' _ _=>b==b'
 | _=>false
def Lk(hp:List Ck):SV→Option iC
 | .ptr b 0=>
  match hp.findIdx? (Ck.Zb b)with
  | some j=>match hp[j]? with
   | some (.NA b' l pos)=>
    if b=b' then
     match l[pos]? with
     | some c=>if c.toNat<128 then some {val:= .lp [.bool (.lit true),.int .i64 (.lit pos),.int .i32 (.lit c.toNat)],rd:=[j],ij:= .set j (.NA b' l (pos+1))}else none
     | none=>some {val:= .lp [.bool (.lit false)],rd:=[j]}
    else none
   | _=>none
  | none=>none
 | _=>none
def dS(T:List TI)(look:Nat→Option SV)(hp:List Ck)(nb nv:Nat)(o:Oper):Option iC:=
 let ev:=jl look
 match o.op with
 | .move x | .assign x=>(ev x).map fun v=>{val:=v}
 | .pick c a b=>
  match ev c,ev a,ev b with
  | some (.bool c),some a,some b=>(Fc c a b).map fun v=>{val:=v}
  | _,_,_=>none
 | .alloc t=>(aW T t).bind fun ti=>match ti.k with
  | .Kf _ e=>if fG ti.zero [.dR,.bY]then some {val:= .ptr nb 0,ij:= .new (.Kf nb t e (.lit 0) (.lit 0))}else none
  | _=>some {val:= .ptr nb 0,ij:= .new (.row nb true ti.zero)}
 | .box _ x=>
  match ev x with
  | some v=>(eR v).map fun cs=>{val:= .ptr nb 0,ij:= .new (.row nb true cs)}
  | none=>none
 | .build t parts=>
  match aW T t,partsOf look parts.toList with
  | some ti,some ps=>
   match ti.k with
   | .struct fs=>if qW T fs then(lu (hG T fs) ti.zero ps).map fun cs=>{val:= .agg cs}else none
   | .arr _ e=>
    match aW T e with
    | some te=>(lu (kV te.size) ti.zero ps).map fun cs=>{val:= .agg cs}
    | none=>none
   | _=>none
  | _,_=>none
 | .buildSlice t len parts=>
  match aW T t,partsOf look parts.toList with
  | some ti,some ps=>
   match ti.k with
   | .slice e=>
    match aW T e with
    | some te=>if len=0 then(if ps.isEmpty then(ig T te).map fun z=>{val:= .vv nv,ij:= .own (.cy true nv e te.size (.lit 0) z)}else none)else if te.size=0∨1000<len*te.size then none else(lu (kV te.size) (List.replicate len te.zero).flatten ps).map fun cs=>{val:= .sl nb (.lit 0) te.size (.lit len) (.lit len),ij:= .new (.row nb true cs)}
    | none=>none
   | _=>none
  | _,_=>none
 | .load t x=>
  match aW T t,ev x with
  | some ti,some a=>zd hp ti.k.agg ti.size a
  | _,_=>none
 | .store t x y=>
  match aW T t,ev x,ev y with
  | some ti,some a,some v=>z4 hp ti.size v a
  | _,_,_=>none
 | .nilCheck x=>
  match ev x with
  | some (.ptr b c)=>some {val:= .ptr b c}
  | some (.qy b i s c)=>some {val:= .qy b i s c}
  | some (.dh e)=>some {val:= .dh e,vcs:=[RL e]}
  | some (.pv v i s c)=>match ef hp v with
   | some (j,.cy _ _ _ _ n _)=>some {val:= .pv v i s c,vcs:=inRange i n,rd:=[j]}
   | _=>none
  | some (.fn f cs)=>some {val:= .fn f cs}
  | _=>none
 | .binOp op t x y _=>
  match aW T t,ev x,ev y with
  | some ti,some a,some b=>match BC ti op y a with
   | some r=>some r
   | none=>ou ti op a b
  | _,_,_=>none
 | .unOp op _ x=>
  match op,ev x with
  | .not,some (.bool b)=>some {val:= .bool (iT b)}
  | .xor,some (.int k a)=>some {val:= .int k (wF .eH k (.lit (if wb k then -1 else IntKind.hi k)) a)}
  | .neg,some (.int k a)=>some {val:= .int k (z6 k (tT (.lit 0) a)).1,vcs:=(z6 k (tT (.lit 0) a)).2}
  | _,_=>none
 | .convert src dst x=>
  match aW T src,aW T dst,ev x with
  | some _,some ti,some (.int _ a)=>
   match ti.k with
   | .int k=>some {val:= .int k (z7 k a).1,vcs:=(z7 k a).2}
   | _=>none
  | some ts,some ti,some (.str l)=>if ts.k= .str then BB T nv ti.k l else none
  | some ts,some ti,some (.lZ s)=>if ts.k= .str then bytesOf T nv ti.k (.lZ s)else none
  | some _,some ti,some (.sl b i s n m)=>
   match ti.k with
   | .slice e=>
    match aW T e,findAt hp b with
    | some te,some (j,.row b' true cs)=>if src=dst∧te.k= .int .u8 then some {val:= .sl b i s n m,rd:=[j],ij:= .set j (.row b' false cs)}else none
    | _,_=>none
   | .str=>pA T hp src (.sl b i s n m)
   | _=>none
  | some _,some ti,some (.vv v)=>if ti.k= .str then pA T hp src (.vv v)else none
  | some _,some ti,some (.ji v cs s)=>if ti.k= .str then pA T hp src (.ji v cs s)else none
  | some _,some ti,some .bY=>if ti.k= .str then pA T hp src .bY else none
  | _,_,_=>none
 | .makeInterface t x=>
  match aW T t,ev x with
  | some ti,some (.int k e)=>if ti.k= .int k then some {val:= .NP t k e}else none
  | _,_=>none
 | .sliceToArrayPointer arr x=>
  match aW T arr,ev x with
  | some ta,some v=>
   match ta.k with
   | .arr n e=>
    match aW T e with
    | some _=>
     if n=0 then none else
     match v with
     | .sl b i s m _=>some {val:=F4 b i s 0,vcs:=eh (.lit n) m}
     | v=>
      match gJ hp v with
      | some r=>some {val:= .pv r.v r.p.lo r.s 0,vcs:=r.vcs++eh (.lit n) r.p.len,rd:=[r.j]}
      | none=>none
    | none=>none
   | _=>none
  | _,_=>none
 | .fieldAddr s x f=>
  match aW T s,ev x with
  | some ts,some a=>
   match ts.k with
   | .struct fs=>
    match fs[f]? with
    | some (t,off)=>
     match aW T t with
     | some ti=>if ti.size=0 then none else
      match a with
      | .ptr b c=>some {val:= .ptr b (c+off)}
      | .qy b i s c=>some {val:= .qy b i s (c+off)}
      | .pv v i s c=>
       match ef hp v with
       | some (j,.cy _ _ _ _ n _)=>some {val:= .pv v i s (c+off),vcs:=inRange i n,rd:=[j]}
       | _=>none
      | _=>none
     | none=>none
    | none=>none
   | _=>none
  | _,_=>none
 | .field s x f=>
  match aW T s,ev x with
  | some ts,some (.agg cs)=>
   match ts.k with
   | .struct fs=>
    match fs[f]? with
    | some (t,off)=>
     match aW T t with
     | some ti=>
      match jS off ti.size cs with
      | some x=>(je ti.k.agg x).map fun v=>{val:=v}
      | none=>none
     | none=>none
    | none=>none
   | _=>none
  | _,_=>none
 | .indexAddr t x y=>
  match aW T t,ev x,ev y with
  | some tt,some a,some (.int _ j)=>
   match tt.k with
   | .slice e=>
    match aW T e with
    | some te=>
     match a with
     | .sl b i s n _=>if te.size=s then some {val:=F4 b (dV i j) s 0,vcs:=pO i++inRange j n}else none
     | a=>
      match gJ hp a with
      | some r=>if te.size=r.s then some {val:= .pv r.v (dV r.p.lo j) r.s 0,vcs:=r.vcs++inRange j r.p.len,rd:=[r.j]}else none
      | none=>none
    | none=>none
   | .arr n e=>
    match aW T e with
    | some te=>
     match a with
     | .ptr b c=>some {val:=F4 b j te.size c,vcs:=inRange j (.lit n)}
     | _=>none
    | none=>none
   | _=>none
  | _,_,_=>none
 | .index t x y=>
  match aW T t,ev x,ev y with
  | some tt,some (.agg cs),some (.int _ j)=>
   match tt.k with
   | .arr n e=>
    match aW T e with
    | some te=>
     match fw j with
     | some l=>if l<n then(match jS (l*te.size) te.size cs with
      | some x=>(je te.k.agg x).map fun v=>{val:=v}
      | none=>none)else none
     | none=>
      match cs with
      | [.a_ k m a]=>if m=n∧te.size=1∧te.k.agg=false then some {val:= .int k (gX a j),vcs:=inRange j (.lit n)}else none
      | _=>none
    | none=>none
   | _=>none
  | some tt,some v,some (.int _ j)=>if tt.k= .str then JX v j else none
  | _,_,_=>none
 | .extract x i=>
  match ev x with
  | some (.lp vs)=>(vs[i]?).map fun v=>{val:=v}
  | _=>none
 | .makeFunc fn first kp=>
  match fn,first.toList with
  | .func f,[]=>(jV (kp.toList.map ev)).map fun cs=>{val:= .fn f cs}
  | _,_=>none
 | .call c=>
  match c.callee,c.args.toList,c.argTypes.toList with
  | .builtin .len,[x],[t]=>
   match aW T t,ev x with
   | some tt,some v=>JY hp tt.k v
   | _,_=>none
  | .builtin .cap,[x],[t]=>
   match aW T t,ev x with
   | some tt,some .bY=>match tt.k with
    | .slice _=>some {val:= .int .i64 (.lit 0)}
    | _=>none
   | _,_=>none
  | .builtin .max,[x,y],_=>
   match ev x,ev y with
   | some (.int k a),some (.int _ b)=>some {val:= .int k (wF .imax k a b)}
   | _,_=>none
  | .builtin .min,[x,y],_=>
   match ev x,ev y with
   | some (.int k a),some (.int _ b)=>some {val:= .int k (wF .U0 k a b)}
   | _,_=>none
  | .builtin .append,[x,y],[ts,Xc]=>
   match aW T ts,ev x,ev y with
   | some tt,some x,some y=>xE T hp nv tt ts Xc x y
   | _,_,_=>none
  | .builtin .clear,[x],[t]=>
   match aW T t,ev x with
   | some tt,some v=>BA T hp tt.k v
   | _,_=>none
  | .builtin .copy,[x,y],[ts,Xc]=>
   match aW T ts,ev x,ev y with
   | some tt,some x,some y=>if ts=Xc then Ff T hp tt.k x y else none
   | _,_,_=>none
  | _,_,_=>none
 | .slice t x lo hi mx=>
  match aW T t,ev x,Ag look lo,Ag look hi,Ag look mx with
  | some tt,some v,some l,some h,some m=>if tt.k= .str then(if m.isSome then none else Bz v l h)else Aj T hp tt.k v l h m
  | _,_,_,_,_=>none
 | .makeMap t none=>ud T nb t
 | .lookup t x k comma=>
  match ev x,ev k with
  | some x,some k=>wQ T hp t x k comma
  | _,_=>none
 | .mapUpdate t x k v=>
  match ev x,ev k,ev v with
  | some x,some k,some v=>sd T hp t x k v
  | _,_,_=>none
 | .insert t x k v=>
  match ev x,ev k,ev v with
  | some x,some k,some v=>sd T hp t x k v
  | _,_,_=>none
 | .makeSlice t n c=>
  match aW T t,ev n,ev c with
  | some tt,some (.int _ n),some (.int _ c)=>Fg T nv tt.k n c
  | _,_,_=>none
 | .range t x=>
  match aW T t,ev x with
  | some ti,some (.str l)=>if ti.k= .str then some {val:= .ptr nb 0,ij:= .new (.NA nb l 0)}else none
  | _,_=>none
 | .next x true=>(ev x).bind (Lk hp)
 | _=>none
end Go.RX
