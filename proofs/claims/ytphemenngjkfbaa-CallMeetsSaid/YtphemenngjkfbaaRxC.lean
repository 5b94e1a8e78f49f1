/- Executor. -/
import Derived.Test.YtphemenngjkfbaaM00
open List renaming range → aec
namespace Go.RX
inductive CK where
 | int (k:IntKind) | bool | val (i:Nat) | ptr | bT | str | cv | Gk (l:List Nat) | pt (i:E) (v:Nat)
 deriving DecidableEq,Repr
structure bV where
 ck:CK
 w:Nat
 a:E
 deriving DecidableEq,Repr
inductive Jump where
 | none | ret | exit (id:Nat)
 deriving DecidableEq,Repr
def Jump.code:Jump→Option Code
 | .none=>Option.none
 | .ret=>some .ret
 | .exit id=>some (.exit id)
inductive RS where
 | ready | busy | done | exhausted
 deriving DecidableEq,Repr
def RS.st:RS→LoopState
 | .ready=> .ready
 | .busy=> .busy
 | .done=> .done
 | .exhausted=> .exhausted
inductive Ck where
 | emp
 | row (b:Nat) (wr:Bool) (cs:List SV)
 | cc (md:Bool) (v t s:Nat) (n:E) (aA:List bV)
 | abs (i:Nat)
 | kI (l r:Nat) (s:RS) (j:Jump)
 | JT (b:Nat)
 | rj (b:Nat)
 | map (b:Nat) (kl:List IntKind) (ka va:Bool) (zero:List SV) (has:E) (aA:List bV)
 | ni (b:Nat) (kl:List IntKind) (ka va:Bool) (zero:List SV) (es:List (Nat×List SV))
 | H7 (b t e:Nat) (n a:E)
 | Ly (b:Nat) (l:List UInt8) (pos:Nat)
 deriving Repr,Inhabited
def au(k:IntKind)(w:Nat)(f:Nat→Int)(i:Nat):List Value:=al k w fun j=>f (i*w+j)
def ou(w:Nat)(f:Nat→Int)(i:Nat):List Value:=(aec w).map fun j=> .bool (!(f (i*w+j)==0))
def dI(w:Nat)(f:Nat→Value)(i:Nat):List Value:=(aec w).map fun j=>f (i*w+j)
def xX(w:Nat)(f:Nat→Int)(i:Nat):List Value:=(aec w).map fun j=>aC (f (i*w+j))
def bV.cells(ρ:Env)(c:bV):Nat→List Value:=
 match c.ck with
 | .int k=>au k c.w (c.a.den ρ)
 | .bool=>ou c.w (c.a.den ρ)
 | .val v=>dI c.w fun j=>((ρ.va.getD v fun _=>V1.nil) j).v
 | .ptr=>xX c.w (c.a.den ρ)
 | .bT=>dI c.w fun _=> .slice none 0 0
 | .str=>dI c.w fun j=> .string ⟨(dW (po (c.a.den ρ) j)).toArray⟩
 | .cv=>dI c.w fun j=>kQ (c.a.den ρ j)
 | .Gk l=>dI c.w fun j=>((l[j]?).elim V1.nil fun n=>ρ.vv.getD n V1.nil).v
 | .pt i v=>dI c.w fun j=>if j=(i.den ρ 0).toNat then(ρ.vv.getD v V1.nil).v else kQ (c.a.den ρ j)
def aH(n:Nat)(cs:List (Nat→List Value)):List Value:=(aec n).flatMap fun i=>cs.flatMap fun c=>c i
def aF(ρ:Env)(n:Nat)(aA:List bV):List Value:=aH n (aA.map (bV.cells ρ))
def nj(es:List (Nat×List SV))(zero:List SV)(k:Nat):List SV:=
 match es with
 | []=>zero
 | (i,v)::r=>if i=k then v else nj r zero k
def pU(es:List (Nat×List SV))(k:Nat):Bool:=
 match es with
 | []=>false
 | (i,_)::r=>if i=k then true else pU r k
def Ai(k:Nat)(v:List SV):List (Nat×List SV)→List (Nat×List SV)
 | []=>[(k,v)]
 | (i,u)::r=>if i=k then(k,v)::r else(i,u)::Ai k v r
def uY(es:List (Nat×List Value))(zero:List Value)(k:Nat):List Value:=
 match es with
 | []=>zero
 | (i,v)::r=>if i=k then v else uY r zero k
def As(es:List Nat)(k:Nat):Bool:=
 match es with
 | []=>false
 | i::r=>if i=k then true else As r k
def CG(ρ:Env)(es:List (Nat×List SV)):List (Nat×List Value):=
 match es with
 | []=>[]
 | (i,v)::r=>(i,SV.ar ρ v)::CG ρ r
theorem I7(ρ:Env)(zero:List SV)(k:Nat): ∀es:List (Nat×List SV),uY (CG ρ es) (SV.ar ρ zero) k=SV.ar ρ (nj es zero k)
 | []=>rfl
 | (i,v)::r=>by simp only [CG,uY,nj];split<;>first | rfl | exact I7 ρ zero k r
def g_:Loop:=⟨.ready,none,0,#[],#[],.skip,.skip,0⟩
noncomputable def Ck.den(ρ:Env):Ck→HP
 | .emp=>HP.emp
 | .row b wr cs=>ak (ρ.bv.getD b 0) wr (SV.ar ρ cs)
 | .cc md v t s n aA=>aB md t s (ρ.vv.getD v V1.nil).v (n.den ρ 0).toNat (aF ρ (n.den ρ 0).toNat aA)
 | .abs i=>ρ.pv.getD i HP.emp
 | .kI l r s j=>j8 (ρ.bv.getD l 0) {ρ.lr.getD r g_ with state:=s.st,pending:=j.code}
 | .JT b=>xO (ρ.bv.getD b 0)
 | .rj b=>kF (pG (ρ.bv.getD b 0))
 | .map b kl ka va zero has aA=>b_ (ρ.bv.getD b 0) kl ka va (SV.ar ρ zero) (fun i=> !(has.den ρ i==0)) fun i=>(aA.map (bV.cells ρ)).flatMap fun c=>c i
 | .ni b kl ka va zero es=>b_ (ρ.bv.getD b 0) kl ka va (SV.ar ρ zero) (fun i=>pU es i) fun i=>uY (CG ρ es) (SV.ar ρ zero) i
 | .H7 b t e n a=>Q9 (ρ.bv.getD b 0) t e (al .u8 (n.den ρ 0).toNat (a.den ρ))
 | .Ly b l pos=>Q8 (ρ.bv.getD b 0) l pos
theorem Ck.kj(ρ:Env)(b:Nat)(kl:List IntKind)(ka va:Bool)(zero:List SV)(es:List (Nat×List SV)):
  Ck.den ρ (.ni b kl ka va zero es)=b_ (ρ.bv.getD b 0) kl ka va (SV.ar ρ zero) (fun i=>pU es i) fun i=>SV.ar ρ (nj es zero i):=by
 simp only [Ck.den,I7]
inductive TK where
 | int (k:IntKind) | bool | str | ptr (e:Nat) | slice (e:Nat) | arr (n e:Nat) | struct (fs:List (Nat×Nat)) | map (k e:Nat) | func | iface | H7 (fs:List (Nat×Nat)) (e:Nat)
 deriving DecidableEq,Repr
abbrev gl:=Option IntKind
structure TI where
 t:Nat
 k:TK
 size:Nat
 bytes:Nat
 zero:List SV
 lay:List (gl×Nat):=[]
 deriving Repr
def j_:List (gl×Nat)→List gl
 | []=>[]
 | (k,n)::r=>List.replicate n k++j_ r
def pT:List SV→List gl→Bool
 | [],[]=>true
 | .int k _::r,some k'::l=>k==k'&&pT r l
 | .bool _::r,none::l=>pT r l
 | .aX k n _::r,l=>decide (n≤l.length)&&(l.take n).all (· ==some k)&&pT r (l.drop n)
 | _,_=>false
def aS(T:List TI)(t:Nat):Option TI:=T.find? fun i=>i.t==t
def TK.agg:TK→Bool
 | .arr .. =>true
 | .struct _=>true
 | .H7 .. =>true
 | _=>false
def dC:E→E→E
 | .lit a,.lit b=> .lit (a+b)
 | .lit 0,b=>b
 | a,.lit 0=>a
 | a,b=> .bin .add .i64 a b
def rV:E→E→E
 | .lit a,.lit b=> .lit (a - b)
 | a,.lit 0=>a
 | a,b=> .bin .sub .i64 a b
def pI:E→E→E
 | .lit a,.lit b=> .lit (a*b)
 | .lit 1,b=>b
 | a,.lit 1=>a
 | a,b=> .bin .mul .i64 a b
def jI:E→E→E
 | a,.lit 0=>a
 | .lit n,_=> .lit n
 | a,o=> .shift a o
def E.Uv:E→Bool
 | .lit _=>true
 | .var _=>true
 | .iX .. =>true
 | .bin .. =>true
 | .wrap .. =>true
 | .kc .. =>true
 | .s5 _=>true
 | _=>false
def BG(v:E):E:=if v.Uv then v else .iX v (.lit 0)
def BH:E→E→E
 | .lit n,_=> .lit n
 | .pF a (.lit j) s,.lit i=>if i.toNat=j.toNat then s else BH a (.lit i)
 | .pF a j s,i=>if i=j then s else .Pl (.pF a j s) i
 | a,i=> .Pl a i
def gv:E→E→E
 | .lit n,_=> .lit n
 | .pk l,.lit i=> .lit (l.getD i.toNat 0)
 | .cV b (.lit j) v,.lit i=>if i.toNat=j.toNat then BG v else gv b (.lit i)
 | .shift b (.lit o),.lit i=>gv b (.lit (o.toNat+i.toNat:Nat))
 | .BD b (.lit o) (.lit n) x,.lit i=>if o.toNat≤i.toNat∧i.toNat<o.toNat+n.toNat then gv x (.lit (i.toNat - o.toNat:Nat))else gv b (.lit i)
 | .cV b i v,i'=>if i=i' then BG v else .iX (.cV b i v) i'
 | a,i=> .iX a i
def uB(o:H2)(k:IntKind):E→E→E
 | .lit a,.lit b=> .lit (ax o k a b)
 | a,b=> .bin o k a b
def L0(k:IntKind):E→E
 | .lit a=> .lit (k.wrap a)
 | a=> .wrap k a
def Pp:E→BE
 | .lit n=> .lit (!(n==0))
 | a=> .nz a
def Sj:E→E→BE
 | .lit a,.lit b=> .lit (a==b)
 | a,b=>if a=b then .lit true else .eq a b
def Gh:E→E→BE
 | .lit a,.lit b=> .lit (decide (a<b))
 | a,b=> .lt a b
def wF:E→E→BE
 | .lit a,.lit b=> .lit (decide (a≤b))
 | a,b=> .le a b
def iE:BE→BE
 | .lit b=> .lit (!b)
 | .not b=>b
 | b=> .not b
def z4:BE→BE→BE
 | .lit true,b=>b
 | .lit false,_=> .lit false
 | a,.lit true=>a
 | a,b=> .and a b
def Xd:BE→BE→BE
 | .lit false,b=>b
 | .lit true,_=> .lit true
 | a,.lit false=>a
 | a,b=> .or a b
def DA:BE→BE→BE→BE
 | .lit true,a,_=>a
 | .lit false,_,b=>b
 | c,.lit true,b=>Xd c b
 | c,a,.lit false=>z4 c a
 | c,a,b=> .ite c a b
def iD(l:List UInt8):E:= .pk ((l.length:Int)::l.map fun b=>((b.toNat:Nat):Int))
def pJ:SV→Option E
 | .str l=>some (iD l)
 | .kE s=>some s
 | _=>none
def mkStr:E→SV
 | .pk (n::l)=>if(n==(l.length:Int))&&l.all (fun b=>decide (0≤b)&&decide (b<256))then .str (l.map fun b=>UInt8.ofNat b.toNat)else .kE (.pk (n::l))
 | s=> .kE s
def j9(s:E):E:=gv s (.lit 0)
def Ju:E→E
 | .pk (n::l)=>if l.all (fun b=>decide (0≤b)&&decide (b<256))then .pk l else .Q6 (.pk (n::l))
 | s=> .Q6 s
def rX(a n:E):E:= .cV (.BD (.lit 0) (.lit 1) n a) (.lit 0) n
def AN(s lo hi:E):E:=
 match s with
 | .cV x (.lit 0) _=> .cV (jI x lo) (.lit 0) (rV hi lo)
 | s=> .cV (jI s lo) (.lit 0) (rV hi lo)
def Jx(s t:E):E:= .cV (.BD s (dC (j9 s) (.lit 1)) (j9 t) (jI t (.lit 1))) (.lit 0) (dC (j9 s) (j9 t))
def Po(a b:E):BE:=if a=b then .lit true else .seq a b
mutual
def SV.width:SV→Nat
 | .aX _ n _=>n
 | .agg cs=>SV.pK cs
 | _=>1
def SV.pK:List SV→Nat
 | []=>0
 | v::r=>SV.width v+SV.pK r
end
abbrev jO(cs:List SV):Nat:=SV.pK cs
def fe:Nat→List SV→Option (List SV)
 | 0,cs=>some cs
 | _+1,[]=>some []
 | _+1,.agg _::_=>none
 | d+1,.aX k n a::r=>if d+1<n then some (.aX k (n - (d+1)) (jI a (.lit (d+1:Nat)))::r)else fe (d+1 - n) r
 | d+1,_::r=>fe d r
def gQ:Nat→List SV→Option (List SV)
 | 0,_=>some []
 | _+1,[]=>some []
 | _+1,.agg _::_=>none
 | d+1,.aX k n a::r=>if d+1≤n then some [.aX k (d+1) a]else(gQ (d+1 - n) r).map (.aX k n a:: ·)
 | d+1,v::r=>(gQ d r).map (v:: ·)
def jc(c size:Nat)(cs:List SV):Option (List SV):=
 if c+size≤jO cs then
  match fe c cs with
  | some r=>gQ size r
  | none=>none
 else none
def xW(c:Nat)(vs cs:List SV):Option (List SV):=
 if c+jO vs≤jO cs then
  match gQ c cs,fe (c+jO vs) cs with
  | some a,some b=>some (a++vs++b)
  | _,_=>none
 else none
def iz(agg:Bool)(cs:List SV):Option SV:=
 if agg then some (.agg cs)else
 match cs with
 | [.aX k 1 a]=>some (.int k (gv a (.lit 0)))
 | [.aX ..]=>none
 | [.agg _]=>none
 | [v]=>some v
 | _=>none
def SV.one:SV→Bool
 | .agg _=>false
 | .opt .. =>false
 | .undef=>false
 | .j7 _=>false
 | _=>true
def er:SV→Option (List SV)
 | .agg cs=>if cs.all SV.one then some cs else none
 | v=>if v.one then some [v]else none
mutual
def ofValue:Value→Option SV
 | .int k n=>some (.int k (.lit n))
 | .bool b=>some (.bool (.lit b))
 | .pointer none=>some .dT
 | .slice none 0 0=>some .bT
 | .nilFunc=>some .oh
 | .nilIface=>some .s6
 | .map none=>some .hU
 | .string ⟨⟨l⟩⟩=>some (.str l)
 | .tuple ⟨[]⟩=>some .undef
 | .agg ⟨l⟩=>(ofValues l).map .agg
 | _=>none
def ofValues:List Value→Option (List SV)
 | []=>some []
 | .agg _::_=>none
 | v::r=>match ofValue v,ofValues r with
  | some x,some xs=>some (x::xs)
  | _,_=>none
end
def iG(look:Nat→Option SV):Operand→Option SV
 | .tmp t=>look t
 | .const v=>ofValue v
 | .global _=>none
 | .func f=>some (.fn f [])
def Ck.rh(b:Nat):Ck→Bool
 | .row b' _ _=>b==b'
 | _=>false
def Ck.mI(v:Nat):Ck→Bool
 | .cc _ v' _ _ _ _=>v==v'
 | _=>false
def findAt(hp:List Ck)(b:Nat):Option (Nat×Ck):=
 match hp.findIdx? (Ck.rh b)with
 | some i=>(hp[i]?).map fun c=>(i,c)
 | none=>none
def dN(hp:List Ck)(v:Nat):Option (Nat×Ck):=
 match hp.findIdx? (Ck.mI v)with
 | some i=>(hp[i]?).map fun c=>(i,c)
 | none=>none
def gS(i n:E):List BE:=
 [wF (.lit 0) i,Gh i n].filter fun b=>b != .lit true
def XT:E→SV
 | .s5 b=> .ptr b 0
 | .lit n=>if n=0 then .dT else .cO (.lit n)
 | e=> .cO e
def eU:E→Option Nat
 | .lit (.ofNat n)=>some n
 | _=>none
def BJ(c:bV)(i:E):Option SV:=
 match c.ck with
 | .int k=>if c.w=1 then some (.int k (gv c.a i))else some (.aX k c.w (jI c.a (pI i (.lit c.w))))
 | .bool=>if c.w=1 then some (.bool (Pp (gv c.a i)))else none
 | .val v=>if c.w=1 then some (.C8 v i)else none
 | .ptr=>if c.w=1 then some (XT (gv c.a i))else none
 | .bT=>if c.w=1 then some .bT else none
 | .str=>if c.w=1 then some (mkStr (BH c.a i))else none
 | .cv=>if c.w=1 then some (.Lv (gv c.a i))else none
 | .Gk l=>match eU i with
  | some k=>match l[k]? with
   | some n=>if c.w=1 then some (.vv n)else none
   | none=>none
  | none=>none
 | .pt j v=>if c.w=1∧j=i then some (.vv v)else none
def nL(i:E):List bV→Option (List SV)
 | []=>some []
 | c::r=>match BJ c i,nL i r with
  | some x,some xs=>some (x::xs)
  | _,_=>none
def bX(aA:List bV):Nat:=(aA.map bV.w).sum
def BL(i:E)(v:SV)(c:bV):Option bV:=
 match c.ck,v with
 | .int k,.int k' e=>if c.w=1∧k=k' then some {c with a:= .cV c.a i e}else none
 | .int k,.aX k' n b=>if c.w=n∧k=k' then some {c with a:= .BD c.a (pI i (.lit n)) (.lit n) b}else none
 | .bool,.bool (.lit x)=>if c.w=1 then some {c with a:= .cV c.a i (.lit (if x then 1 else 0))}else none
 | .bool,.bool (.nz e)=>if c.w=1 then some {c with a:= .cV c.a i e}else none
 | .ptr,.ptr b o=>if c.w=1∧o=0 then some {c with a:= .cV c.a i (.s5 b)}else none
 | .ptr,.dT=>if c.w=1 then some {c with a:= .cV c.a i (.lit 0)}else none
 | .ptr,.cO e=>if c.w=1 then some {c with a:= .cV c.a i e}else none
 | .bT,.bT=>if c.w=1 then some c else none
 | .str,.str l=>if c.w=1 then some {c with a:= .pF c.a i (iD l)}else none
 | .str,.kE s=>if c.w=1 then some {c with a:= .pF c.a i s}else none
 | .cv,.Lv e=>if c.w=1 then some {c with a:= .cV c.a i e}else none
 | .cv,.bT=>if c.w=1 then some {c with a:= .cV c.a i (.lit 0)}else none
 | .pt j _,.vv v=>if c.w=1∧j=i then some {c with ck:= .pt j v}else none
 | _,_=>none
def vG:Nat→E→List SV→Option (List IntKind×E)
 | _,acc,[]=>some ([],acc)
 | o,acc,.int k e::r=>match vG (o+1) (.cV acc (.lit o) e) r with
  | some (l,a)=>some (k::l,a)
  | none=>none
 | o,acc,.aX k n b::r=>match vG (o+n) (.BD acc (.lit o) (.lit n) b) r with
  | some (l,a)=>some (List.replicate n k++l,a)
  | none=>none
 | _,_,_=>none
def rowOf(cs:List SV):Option (List IntKind×E):=
 match cs with
 | [.aX k n a]=>some (List.replicate n k,a)
 | [.int k e]=>some ([k],e)
 | cs=>vG 0 (.lit 0) cs
def align:List bV→List SV→Option (List SV)
 | _,[]=>some []
 | [],v::r=>some (v::r)
 | c::aA,v::r=>
  if v.width=c.w then(align aA r).map (v:: ·)else
  match c.ck,jc 0 c.w (v::r),fe c.w (v::r)with
  | .int k,some x,some rest=>
   match rowOf x with
   | some (kl,a)=>if kl=List.replicate c.w k then(align aA rest).map (.aX k c.w a:: ·)else none
   | none=>none
  | _,_,_=>none
def nN(i:E):List SV→List bV→Option (List bV)
 | [],aA=>some aA
 | v::r,c::aA=>match BL i v c,nN i r aA with
  | some c',some aR=>some (c'::aR)
  | _,_=>none
 | _::_,[]=>none
def kR(i:E)(vs:List SV)(aA:List bV):Option (List bV):=
 match align aA vs with
 | some FJ=>nN i FJ aA
 | none=>none
def nO(i:E)(vs:List SV):Nat→List bV→Option (List bV)
 | 0,aA=>kR i vs aA
 | _+1,[]=>none
 | o+1,c::r=>if c.w≤o+1 then(nO i vs (o+1 - c.w) r).map (c:: ·)else none
def H8(c:Nat)(cs:List SV):Option (List SV×IntKind×Nat×E×List SV):=
 if c≤jO cs then
  match fe c cs,gQ c cs with
  | some (.aX k n a::r),some pre=>some (pre,k,n,a,r)
  | _,_=>none
 else none
inductive Am where
 | none
 | new (ck:Ck)
 | set (i:Nat) (ck:Ck)
 | app (i:Nat) (ck:Ck)
 | own (ck:Ck)
 | DL (ck:Ck)
 deriving Repr
structure gU where
 val:SV
 vcs:List BE:=[]
 rd:List Nat:=[]
 gJ:Am:= .none
 deriving Repr
def uF(o:BinOp)(x y:SV):Option gU:=
 match x,y with
 | .str a,.str b=>
  match o with
  | .add=>if a.length+b.length≤1000000 then some {val:= .str (a++b)}else none
  | .eql=>some {val:= .bool (.lit (a==b))}
  | .neq=>some {val:= .bool (.lit (!(a==b)))}
  | _=>none
 | x,y=>
  match pJ x,pJ y with
  | some a,some b=>
   match o with
   | .add=>some {val:= .kE (Jx a b),vcs:=I8 (j9 a)++I8 (j9 b)++[wF (dC (j9 a) (j9 b)) (.lit 9223372036854775807)]}
   | .eql=>some {val:= .bool (Po a b)}
   | .neq=>some {val:= .bool (iE (Po a b))}
   | _=>none
  | _,_=>none
 where I8 (b:E):List BE:=[wF (.lit 0) b].filter fun b=>b != .lit true
def HI(v:SV)(j:E):Option gU:=
 match v with
 | .str l=>
  match j with
  | .lit (.ofNat i)=>if i<l.length then some {val:= .int .u8 (.lit (l.getD i 0).toNat)}else none
  | j=>some {val:= .int .u8 (gv (.pk (l.map fun b=>((b.toNat:Nat):Int))) j),vcs:=[wF (.lit 0) j,Gh j (.lit l.length)].filter fun b=>b != .lit true}
 | .kE s=>some {val:= .int .u8 (gv (Ju s) j),vcs:=[wF (.lit 0) j,Gh j (j9 s)].filter fun b=>b != .lit true}
 | _=>none
def sP(s a b:E):gU:={val:= .kE (AN s a b),vcs:=V0 (.lit 0) a++V0 a b++V0 b (j9 s)}
 where V0 (a b:E):List BE:=if a=b then []else [wF a b].filter fun b=>b != .lit true
def zz(v:SV)(lo hi:Option E):Option gU:=
 match v with
 | .str l=>
  match lo.getD (.lit 0),hi.getD (.lit l.length)with
  | .lit (.ofNat a),.lit (.ofNat b)=>if a≤b∧b≤l.length then some {val:= .str ((l.take b).drop a)}else none
  | a,b=>some (sP (iD l) a b)
 | .kE s=>some (sP s (lo.getD (.lit 0)) (hi.getD (j9 s)))
 | _=>none
structure cz where
 b:Nat:=0
 v:Nat:=0
 i:Nat:=0
 a:Nat:=0
 bo:Nat:=0
 p:Nat:=0
 r:Nat:=0
 deriving Repr,DecidableEq
def DO(b:Nat)(i:E)(s c:Nat):SV:=
 match eU i with
 | some n=> .ptr b (n*s+c)
 | none=> .pq b i s c
def dG(a b:E):List BE:=if a=b then []else [wF a b].filter fun b=>b != .lit true
def tf:Nat→E→List SV→Option E
 | _,acc,[]=>some acc
 | o,acc,.str l::r=>tf (o+1) (.pF acc (.lit o) (iD l)) r
 | o,acc,.kE s::r=>tf (o+1) (.pF acc (.lit o) s) r
 | _,_,_=>none
def L7(cs:List SV):Option E:=tf 0 (.lit 0) cs
def wZ(hp:List Ck)(agg:Bool)(size:Nat):SV→Option gU
 | .ptr b c=>
  match findAt hp b with
  | some (j,.row _ _ cs)=>
   match jc c size cs with
   | some x=>(iz agg x).map fun v=>{val:=v,rd:=[j]}
   | none=>none
  | _=>none
 | .pq b i s c=>
  match findAt hp b with
  | some (j,.row _ _ cs)=>
   if s=1∧size=1∧agg=false then
    match H8 c cs with
    | some (_,k,n,a,_)=>some {val:= .int k (gv a i),vcs:=gS i (.lit n),rd:=[j]}
    | none=>if c=0 then match L7 cs with
     | some a=>some {val:=mkStr (BH a i),vcs:=gS i (.lit cs.length),rd:=[j]}
     | none=>none
     else none
   else none
  | _=>none
 | .pv v i s c=>
  match dN hp v with
  | some (j,.cc _ _ _ s' n aA)=>
   if s=s'∧s=bX aA then
    if s<size then
     match aA with
     | [⟨.int k,1,a⟩]=>if c=0∧agg=true then some {val:= .agg [.aX k size (jI a i)],vcs:=dG (.lit 0) i++dG (dC i (.lit size)) n,rd:=[j]}else none
     | _=>none
    else
    match nL i aA with
    | some es=>match jc c size es with
     | some y=>(iz agg y).map fun x=>{val:=x,vcs:=gS i n,rd:=[j]}
     | none=>none
    | none=>none
   else none
  | _=>none
 | _=>none
def ye(hp:List Ck)(size:Nat)(v:SV):SV→Option gU
 | .ptr b c=>
  match findAt hp b,er v with
  | some (j,.row b' true cs),some vs=>
   if jO vs=size then
    (xW c vs cs).map fun uC=>{val:= .undef,rd:=[j],gJ:= .set j (.row b' true uC)}
   else none
  | _,_=>none
 | .pq b i s c=>
  match findAt hp b,er v with
  | some (j,.row b' true cs),some [.int k e]=>
   if s=1∧size=1 then
    match H8 c cs with
    | some (pre,k',n,a,post)=>if k=k' then some {val:= .undef,vcs:=gS i (.lit n),rd:=[j],gJ:= .set j (.row b' true (pre++ .aX k n (.cV a i e)::post))}else none
    | none=>none
   else none
  | _,_=>none
 | .pv x i s c=>
  match dN hp x,er v with
  | some (j,.cc true x' t s' n aA),some vs=>
   if s=s'∧s=bX aA∧0<size∧jO vs=size then
    (nO i vs c aA).map fun aR=>{val:= .undef,vcs:=gS i n,rd:=[j],gJ:= .set j (.cc true x' t s' n aR)}
   else none
  | _,_=>none
 | _=>none
def kS:List SV→List SV→Option BE
 | [],[]=>some (.lit true)
 | .int k a::r,.int k' b::r'=>if k=k' then(kS r r').map (z4 (Sj a b))else none
 | .bool a::r,.bool b::r'=>(kS r r').map (z4 (DA a b (iE b)))
 | .aX k n a::r,.aX k' n' b::r'=>if k=k'∧n=n' then(kS r r').map (z4 (if a=b then .lit true else .Q7 n a b))else none
 | _,_=>none
def qD:List SV→List SV
 | []=>[]
 | .aX k n a::r=>((aec n).map fun j:Nat=>SV.int k (gv a (.lit j)))++qD r
 | v::r=>v::qD r
def yj(a b:List SV):Option BE:=
 match kS a b with
 | some c=>some c
 | none=>kS (qD a) (qD b)
def ptrEq(k:TK)(x y:SV):Option BE:=
 match k,x,y with
 | .ptr _,.dT,.dT=>some (.lit true)
 | .ptr _,.dT,.ptr .. =>some (.lit false)
 | .ptr _,.ptr ..,.dT=>some (.lit false)
 | .ptr _,.dT,.pq .. =>some (.lit false)
 | .ptr _,.pq ..,.dT=>some (.lit false)
 | .ptr _,.dT,.cO e=>some (Sj e (.lit 0))
 | .ptr _,.cO e,.dT=>some (Sj e (.lit 0))
 | .slice _,.bT,.bT=>some (.lit true)
 | .slice _,.bT,.sl .. =>some (.lit false)
 | .slice _,.sl ..,.bT=>some (.lit false)
 | .func,.oh,.oh=>some (.lit true)
 | .func,.oh,.fn .. =>some (.lit false)
 | .func,.fn ..,.oh=>some (.lit false)
 | _,_,_=>none
def IntKind.lo:IntKind→Int
 | .i8=> -128 | .i16=> -32768 | .i32=> -2147483648 | .i64=> -9223372036854775808 | _=>0
def IntKind.hi:IntKind→Int
 | .i8=>127 | .i16=>32767 | .i32=>2147483647 | .i64=>9223372036854775807
 | .u8=>255 | .u16=>65535 | .u32=>4294967295 | .u64=>18446744073709551615
def uf:IntKind→Bool
 | .i8 | .i16 | .i32 | .i64=>true
 | _=>false
def yh(k:IntKind)(e:E):E×List BE:=
 match e with
 | .lit n=>(.lit (k.wrap n),[])
 | _=>if uf k then(e,[.le (.lit (IntKind.lo k)) e,.le e (.lit (IntKind.hi k))])else(.wrap k e,[])
def yi(k:IntKind)(e:E):E×List BE:=
 match e with
 | .wrap .u64 (.bin .sub .i64 (.lit 0) _)=>if uf k then(.wrap k e,[])else yh k e
 | _=>yh k e
def oA(b:E):List BE:=[wF (.lit 0) b].filter fun b=>b != .lit true
def nh(ti:TI)(o:BinOp)(x y:SV):Option gU:=
 match x,y with
 | .int k a,.int k' b=>
  match o with
  | .shl=>some {val:= .int k (uB .shl k a b),vcs:=oA b}
  | .shr=>some {val:= .int k (uB .shr k a b),vcs:=oA b}
  | _=>
  if k≠k' then none else
  match o with
  | .add=>let (e,vc):=yh k (dC a b);some {val:= .int k e,vcs:=vc}
  | .sub=>let (e,vc):=yh k (rV a b);some {val:= .int k e,vcs:=vc}
  | .mul=>let (e,vc):=yh k (pI a b);some {val:= .int k e,vcs:=vc}
  | .quo=>some {val:= .int k (L0 k (uB .quo k a b)),vcs:=[Pp b]}
  | .rem=>some {val:= .int k (uB .rem k a b),vcs:=[Pp b]}
  | .and=>some {val:= .int k (uB .eT k a b)}
  | .or=>some {val:= .int k (uB .na k a b)}
  | .xor=>some {val:= .int k (uB .cr k a b)}
  | .andNot=>some {val:= .int k (uB .Pk k a b)}
  | .eql=>some {val:= .bool (Sj a b)}
  | .neq=>some {val:= .bool (iE (Sj a b))}
  | .lss=>some {val:= .bool (Gh a b)}
  | .leq=>some {val:= .bool (wF a b)}
  | .gtr=>some {val:= .bool (Gh b a)}
  | .geq=>some {val:= .bool (wF b a)}
  | _=>none
 | .bool a,.bool b=>
  if ti.k≠ .bool then none else
  match o with
  | .eql=>some {val:= .bool (DA a b (iE b))}
  | .neq=>some {val:= .bool (iE (DA a b (iE b)))}
  | _=>none
 | .agg a,.agg b=>
  if !ti.k.agg||ti.lay.isEmpty|| !(pT a (j_ ti.lay))|| !(pT b (j_ ti.lay))then none else
  match o,yj a b with
  | .eql,some c=>some {val:= .bool c}
  | .neq,some c=>some {val:= .bool (iE c)}
  | _,_=>none
 | a,b=>
  if ti.k= .str then uF o a b else
  match o,ptrEq ti.k a b with
  | .eql,some c=>some {val:= .bool c}
  | .neq,some c=>some {val:= .bool (iE c)}
  | _,_=>none
def jW(place:Nat→Option (Nat×Nat))(cells:List SV):List (Nat×List SV)→Option (List SV)
 | []=>some cells
 | (i,cs)::r=>
  match place i with
  | some (off,size)=>
   if jO cs=size then
    match xW off cs cells with
    | some TO=>jW place TO r
    | none=>none
   else none
  | none=>none
def gB(T:List TI)(fs:List (Nat×Nat))(i:Nat):Option (Nat×Nat):=
 match fs[i]? with
 | some (t,off)=>(aS T t).map fun ti=>(off,ti.size)
 | none=>none
def jN(size:Nat)(i:Nat):Option (Nat×Nat):=some (i*size,size)
def pV(T:List TI)(fs:List (Nat×Nat)):Bool:=fs.all fun f=>(aS T f.1).isSome
def partsOf(look:Nat→Option SV):List (Nat×Operand)→Option (List (Nat×List SV))
 | []=>some []
 | (i,x)::r=>
  match iG look x,partsOf look r with
  | some v,some rest=>(er v).map fun cs=>(i,cs)::rest
  | _,_=>none
def jg:List (Option SV)→Option (List SV)
 | []=>some []
 | some v::r=>(jg r).map (v:: ·)
 | none::_=>none
def CH(c:BE)(a b:SV):Option SV:=
 match c with
 | .lit true=>some a
 | .lit false=>some b
 | c=>
  match a,b with
  | .bool x,.bool y=>some (.bool (DA c x y))
  | .bool x,.opt g (.bool y)=>if g=iE c then some (.bool (DA c x y))else none
  | .opt g (.bool x),.bool y=>if g=c then some (.bool (DA c x y))else none
  | _,_=>none
structure Part where
 lo:E
 len:E
 mx:Option E
 deriving Repr
def gm(n:E)(p:Part)(c:Cut):Part×List BE:=
 (⟨dC p.lo c.lo,rV c.hi c.lo,match c.mx with | some m=>some (dC p.lo m) | none=>p.mx⟩,
  dG (.lit 0) c.lo++dG c.lo c.hi++
  match c.mx,p.mx with
  | none,none=>dG (dC p.lo c.hi) n
  | none,some m0=>dG (dC p.lo c.hi) m0
  | some m,none=>dG c.hi m++dG (dC p.lo m) n
  | some m,some m0=>dG c.hi m++dG (dC p.lo m) m0)
def sd(n:E):List Cut→Part→Part×List BE
 | [],p=>(p,[])
 | c::r,p=>((sd n r (gm n p c).1).1,(gm n p c).2++(sd n r (gm n p c).1).2)
structure Rt where
 j:Nat
 md:Bool
 v:Nat
 t:Nat
 s:Nat
 n:E
 aA:List bV
 p:Part
 vcs:List BE
def gf(hp:List Ck):SV→Option Rt
 | .vv v=>match dN hp v with
  | some (j,.cc md _ t s n aA)=>some ⟨j,md,v,t,s,n,aA,⟨.lit 0,n,none⟩,[]⟩
  | _=>none
 | .iC v cs s'=>match dN hp v with
  | some (j,.cc md _ t s n aA)=>if s=s' then some ⟨j,md,v,t,s,n,aA,(sd n cs ⟨.lit 0,n,none⟩).1,(sd n cs ⟨.lit 0,n,none⟩).2⟩else none
  | _=>none
 | _=>none
def HJ(hp:List Ck)(k:TK)(v:SV):Option gU:=
 match k with
 | .slice _=>
  match v with
  | .sl _ _ _ n _=>some {val:= .int .i64 n,vcs:=oA n}
  | .bT=>some {val:= .int .i64 (.lit 0)}
  | .vv v=>
   match dN hp v with
   | some (j,.cc _ _ _ _ n _)=>some {val:= .int .i64 n,vcs:=oA n,rd:=[j]}
   | _=>none
  | .iC v cs s=>
   match gf hp (.iC v cs s)with
   | some r=>some {val:= .int .i64 r.p.len,vcs:=r.vcs++dG (.lit 0) r.p.len,rd:=[r.j]}
   | none=>none
  | _=>none
 | .str=>
  match v with
  | .str l=>some {val:= .int .i64 (.lit l.length)}
  | .kE s=>some {val:= .int .i64 (j9 s),vcs:=oA (j9 s)}
  | _=>none
 | _=>none
mutual
def vo(T:List TI):Nat→Nat→Option (List bV)
 | 0,_=>none
 | d+1,t=>
  match aS T t with
  | some {k:= .int k,.. }=>some [⟨.int k,1,.lit 0⟩]
  | some {k:= .bool,.. }=>some [⟨.bool,1,.lit 0⟩]
  | some {k:= .ptr _,.. }=>some [⟨.ptr,1,.lit 0⟩]
  | some {k:= .slice _,.. }=>some [⟨.bT,1,.lit 0⟩]
  | some {k:= .str,.. }=>some [⟨.str,1,.lit 0⟩]
  | some {k:= .arr n e,.. }=>match aS T e with
   | some {k:= .int k,.. }=>some [⟨.int k,n,.lit 0⟩]
   | _=>none
  | some {k:= .struct fs,.. }=>I9 T d fs
  | _=>none
def I9(T:List TI):Nat→List (Nat×Nat)→Option (List bV)
 | 0,_=>none
 | _+1,[]=>some []
 | d+1,(t,_)::r=>match vo T d t,I9 T d r with
  | some a,some b=>some (a++b)
  | _,_=>none
end
def vp(T:List TI)(hp:List Ck)(nv:Nat)(k:TK)(x y:SV):Option gU:=
 match x,y with
 | .vv v,.sl b i s m _=>
  match dN hp v,findAt hp b with
  | some (j,.cc true _ t s' n aA),some (j',.row _ _ cs)=>
   match kR n cs aA,aS T t with
   | some aR,some te=>
    if i= .lit 0∧m= .lit 1∧k= .slice t∧s=s'∧s=bX aA∧jO cs=s∧0<s∧cs.all SV.one=true∧te.size=s then
     some {val:= .vv nv,vcs:=oA n++[.le (.bin .mul .i64 (.bin .add .i64 n (.lit 1)) (.lit (max 1 te.bytes:Nat))) (.lit 140737488355328)],rd:=[j,j'],gJ:= .app j (.cc true nv t s (dC n (.lit 1)) aR)}
    else none
   | _,_=>none
  | _,_=>none
 | .bT,.sl b i s m _=>
  match findAt hp b,k with
  | some (j',.row _ _ cs),.slice t=>
   match aS T t,vo T 30 t with
   | some te,some aA=>
    match kR (.lit 0) cs aA with
    | some aR=>
     if i= .lit 0∧m= .lit 1∧s=bX aA∧jO cs=s∧0<s∧cs.all SV.one=true∧te.size=s∧te.bytes≤140737488355328 then
      some {val:= .vv nv,rd:=[j'],gJ:= .own (.cc true nv t s (.lit 1) aR)}
     else none
    | none=>none
   | _,_=>none
  | _,_=>none
 | _,_=>none
def yq(x:SV)(c:Cut)(s:Nat):Option SV:=
 match x with
 | .vv v=>some (.iC v [c] s)
 | .iC v cs s'=>if s=s' then some (.iC v (cs++[c]) s)else none
 | _=>none
def yu(T:List TI)(hp:List Ck)(k:TK)(x:SV)(lo hi mx:Option E):Option gU:=
 if mx.isSome&&hi.isNone then none else
 match k,x with
 | .slice e,.sl b i s n m=>
  match aS T e with
  | some te=>
   if te.size=s then
    let l:=lo.getD (.lit 0)
    let h:=hi.getD n
    let mm:=mx.getD m
    some {val:= .sl b (dC i l) s (rV h l) (rV mm l),vcs:=dG (.lit 0) i++dG (.lit 0) l++dG l h++dG h mm++dG mm m++dG (.lit 0) n++(if l= .lit 0 then []else [Gh l mm].filter fun b=>b != .lit true)}
   else none
  | none=>none
 | .slice e,.bT=>
  match aS T e with
  | some _=>if lo.getD (.lit 0)= .lit 0∧hi.getD (.lit 0)= .lit 0∧mx.getD (.lit 0)= .lit 0 then some {val:= .bT}else none
  | none=>none
 | .slice e,x=>
  match aS T e,gf hp x with
  | some te,some r=>
   if te.size=r.s then
    let c:Cut:=⟨lo.getD (.lit 0),hi.getD r.p.len,mx⟩
    match yq x c r.s with
    | some v=>some {val:=v,vcs:=r.vcs++(gm r.n r.p c).2,rd:=[r.j]}
    | none=>none
   else none
  | _,_=>none
 | .arr n e,.ptr b c=>
  match aS T e with
  | some te=>
   if te.size≠0∧c%te.size=0 then
    let l:=lo.getD (.lit 0)
    let h:=hi.getD (.lit n)
    let mm:=mx.getD (.lit n)
    some {val:= .sl b (dC (.lit (c/te.size:Nat)) l) te.size (rV h l) (rV mm l),vcs:=dG (.lit 0) l++dG l h++dG h mm++dG mm (.lit n)++(if l= .lit 0 then []else [Gh l mm].filter fun b=>b != .lit true)}
   else none
  | none=>none
 | _,_=>none
def Fx(lo:E)(c:bV):Option bV:=
 match c.ck with
 | .val _=>if lo= .lit 0 then some c else none
 | .Gk _=>if lo= .lit 0 then some c else none
 | .pt _ _=>if lo= .lit 0 then some c else none
 | .str=>if lo= .lit 0 then some c else none
 | _=>some {c with a:=jI c.a (pI lo (.lit c.w))}
def gZ(lo:E):List bV→Option (List bV)
 | []=>some []
 | c::r=>match Fx lo c,gZ lo r with
  | some a,some b=>some (a::b)
  | _,_=>none
def HK(at_ m:E)(d s:bV):Option bV:=
 if d.w≠s.w then none else
 match d.ck,s.ck with
 | .int k,.int k'=>if k=k' then some {d with a:= .BD d.a (pI at_ (.lit d.w)) (pI m (.lit d.w)) s.a}else none
 | .bool,.bool=>some {d with a:= .BD d.a (pI at_ (.lit d.w)) (pI m (.lit d.w)) s.a}
 | .ptr,.ptr=>some {d with a:= .BD d.a (pI at_ (.lit d.w)) (pI m (.lit d.w)) s.a}
 | .bT,.bT=>some d
 | .str,.str=>if m= .lit 1∧d.w=1 then some {d with a:= .pF d.a at_ (BH s.a (.lit 0))}else if m= .lit 0 then some d else none
 | _,_=>none
def gu(at_ m:E):List bV→List bV→Option (List bV)
 | [],[]=>some []
 | d::r,s::r'=>match HK at_ m d s,gu at_ m r r' with
  | some a,some b=>some (a::b)
  | _,_=>none
 | _,_=>none
structure Src where
 rd:List Nat
 vcs:List BE
 n:E
 aA:List bV
def ug(s:Nat):Nat→Nat→List SV→List bV→Option (List bV)
 | 0,_,_,aA=>some aA
 | k+1,i,cs,aA=>
  match jc 0 s cs,fe s cs with
  | some a,some b=>match kR (.lit i) a aA with
   | some aR=>ug s k (i+1) b aR
   | none=>none
  | _,_=>none
def By(T:List TI)(hp:List Ck)(te:TI)(y:SV):Option Src:=
 match y with
 | .bT=>match vo T 30 te.t with
  | some aA=>if te.size=bX aA then some ⟨[],[],.lit 0,aA⟩else none
  | none=>none
 | .sl b i s m _=>
  match findAt hp b with
  | some (j,.row _ _ cs)=>
   if s≠te.size then none else
   match eU i,eU m with
   | some i0,some m0=>
    match jc (i0*s) (m0*s) cs with
    | some [.aX k N a]=>if s=1∧N=m0 then some ⟨[j],[],.lit m0,[⟨.int k,1,a⟩]⟩else none
    | some x=>
     if x.all SV.one then
      match vo T 30 te.t with
      | some aA=>if s=bX aA then(ug s m0 0 x aA).map fun aR=>⟨[j],[],.lit m0,aR⟩else none
      | none=>none
     else none
    | none=>none
   | _,_=>
    match cs with
    | [.aX k N a]=>if s=1 then some ⟨[j],dG (.lit 0) i++dG (.lit 0) m++dG (dC i m) (.lit N),m,[⟨.int k,1,jI a i⟩]⟩else none
    | _=>none
  | _=>none
 | x=>
  match gf hp x with
  | some r=>
   if r.s=te.size∧r.s=bX r.aA then
    (gZ r.p.lo r.aA).map fun aA=>⟨[r.j],r.vcs++dG (.lit 0) r.p.len,r.p.len,aA⟩
   else none
  | none=>none
def oW(n:E)(bytes:Nat):BE:=wF (pI n (.lit (max 1 bytes:Nat))) (.lit 140737488355328)
def OF(y:SV)(v:Nat):Bool:=
 match y with
 | .vv v'=>v'==v
 | .iC v' _ _=>v'==v
 | _=>false
def QY:SV→Bool
 | .iC _ [⟨_,hi,some m⟩] _=>hi==m
 | _=>false
def sQ(T:List TI)(hp:List Ck)(nv:Nat)(k:TK)(x y:SV):Option gU:=
 match k with
 | .slice t=>
  match aS T t with
  | some te=>
   match By T hp te y with
   | some sc=>
    if te.size=0 then none else
    match x with
    | .bT=>some {val:= .vv nv,vcs:=sc.vcs++dG (.lit 0) sc.n++[oW sc.n te.bytes],rd:=sc.rd,gJ:= .own (.cc true nv t te.size sc.n sc.aA)}
    | .sl b i s n m=>
     match By T hp te (.sl b i s n m),eU sc.n with
     | some x,some (_+1)=>
      if x.n=n∧n=m∧s=te.size then
       (gu n sc.n x.aA sc.aA).map fun aR=>{val:= .vv nv,vcs:=x.vcs++sc.vcs++dG (.lit 0) n++[oW (dC n sc.n) te.bytes],rd:=x.rd++sc.rd,gJ:= .own (.cc true nv t te.size (dC n sc.n) aR)}
      else none
     | _,_=>none
    | x=>
     match gf hp x with
     | some r=>
      if r.t=t∧r.s=te.size∧r.s=bX r.aA∧r.md=true then
       if OF y r.v&& !QY x then
        match x,gu (dC r.p.lo r.p.len) sc.n r.aA sc.aA with
        | .iC v [⟨lo,hi,none⟩] s,some aR=>
         some {val:= .iC v [⟨lo,dC hi sc.n,none⟩] s,vcs:=r.vcs++sc.vcs++dG (.lit 0) sc.n++dG (dC hi sc.n) r.n,rd:=r.j::sc.rd,gJ:= .set r.j (.cc true r.v t r.s r.n aR)}
        | _,_=>none
       else
        match gZ r.p.lo r.aA with
        | some rc=>
         match (if r.p.len= .lit 0 then some sc.aA else gu r.p.len sc.n rc sc.aA)with
         | some aR=>
          some {val:= .vv nv,vcs:=r.vcs++sc.vcs++dG (.lit 0) r.p.len++dG (.lit 0) sc.n++[oW (dC r.p.len sc.n) te.bytes],rd:=r.j::sc.rd,gJ:= .app r.j (.cc true nv t r.s (dC r.p.len sc.n) aR)}
         | none=>none
        | none=>none
      else none
     | none=>none
   | none=>none
  | none=>none
 | _=>none
def js:List SV→List bV→Bool
 | [],[]=>true
 | .int k (.lit 0)::r,⟨.int k',w,.lit 0⟩::aA=>k==k'&&w==1&&js r aA
 | .bool (.lit false)::r,⟨.bool,w,.lit 0⟩::aA=>w==1&&js r aA
 | .aX k n (.lit 0)::r,⟨.int k',w,.lit 0⟩::aA=>k==k'&&w==n&&js r aA
 | .dT::r,⟨.ptr,w,.lit 0⟩::aA=>w==1&&js r aA
 | .bT::r,⟨.bT,w,_⟩::aA=>w==1&&js r aA
 | .str []::r,⟨.str,w,.lit 0⟩::aA=>w==1&&js r aA
 | _,_=>false
def gI(T:List TI)(te:TI):Option (List bV):=
 match vo T 30 te.t with
 | some aA=>if js te.zero aA&&bX aA==te.size&& !(te.size==0)then some aA else none
 | none=>none
def zA(T:List TI)(hp:List Ck)(k:TK)(x:SV):Option gU:=
 match k,x with
 | .slice _,.bT=>some {val:= .undef}
 | .slice e,x=>
  match aS T e,gf hp x with
  | some te,some r=>
   match gI T te with
   | some z=>
    if r.s=te.size∧r.s=bX r.aA∧r.md=true then
     (gu r.p.lo r.p.len r.aA z).map fun aR=>{val:= .undef,vcs:=r.vcs++dG (.lit 0) r.p.len,rd:=[r.j],gJ:= .set r.j (.cc true r.v r.t r.s r.n aR)}
    else none
   | none=>none
  | _,_=>none
 | _,_=>none
def wS:E→E→E
 | .lit a,.lit b=> .lit (min a b)
 | a,b=>if a=b then a else .bin .Sc .i64 a b
def CI(T:List TI)(hp:List Ck)(k:TK)(x y:SV):Option gU:=
 match k with
 | .slice t=>
  match aS T t with
  | some te=>
   match By T hp te y with
   | some sc=>
    match x with
    | .sl b i s n _=>
     match findAt hp b with
     | some (j,.row b' true cs)=>
      if s≠te.size∨s=0 then none else
      match cs with
      | [.aX k N a]=>
       match sc.aA with
       | [⟨.int k',1,a'⟩]=>
        if s=1∧k=k' then
         some {val:= .int .i64 (wS sc.n n),vcs:=sc.vcs++dG (.lit 0) sc.n++dG (.lit 0) i++dG (.lit 0) n++dG (dC i n) (.lit N),rd:=j::sc.rd,gJ:= .set j (.row b' true [.aX k N (.BD a i (wS sc.n n) a')])}
        else none
       | _=>none
      | _=>
       match eU i,eU n,eU sc.n,sc.aA with
       | some i0,some n0,some m0,[⟨.int k',1,a'⟩]=>
        if s=1 then
         (xW i0 [.aX k' (min m0 n0) a'] cs).map fun uC=>{val:= .int .i64 (.lit (min m0 n0:Nat)),vcs:=sc.vcs,rd:=j::sc.rd,gJ:= .set j (.row b' true uC)}
        else none
       | _,_,_,_=>none
     | _=>none
    | x=>
     match gf hp x with
     | some r=>
      if r.t=t∧r.s=te.size∧r.s=bX r.aA∧r.md=true∧0<r.s then
       (gu r.p.lo (wS sc.n r.p.len) r.aA sc.aA).map fun aR=>
        {val:= .int .i64 (wS sc.n r.p.len),vcs:=r.vcs++sc.vcs++dG (.lit 0) r.p.len++dG (.lit 0) sc.n,rd:=r.j::sc.rd,gJ:= .set r.j (.cc true r.v t r.s r.n aR)}
      else none
     | none=>none
   | none=>none
  | none=>none
 | _=>none
def CJ(T:List TI)(nv:Nat)(k:TK)(n c:E):Option gU:=
 match k with
 | .slice t=>
  match aS T t with
  | some te=>
   match gI T te with
   | some z=>some {val:= .vv nv,vcs:=dG (.lit 0) n++dG n c++[oW c te.bytes],gJ:= .own (.cc true nv t te.size n z)}
   | none=>none
  | none=>none
 | _=>none
def BT(T:List TI)(hp:List Ck)(nv:Nat)(k:TK)(x:SV)(m:E):Option gU:=
 match k,x with
 | .slice t,.vv v=>
  match aS T t,dN hp v with
  | some te,some (j,.cc true _ t' s n aA)=>
   match gI T te with
   | some z=>
    match gu n m aA z with
    | some aR=>
     if t'=t∧s=te.size∧s=bX aA then
      some {val:= .vv nv,vcs:=dG (.lit 0) n++dG (.lit 0) m++[oW (dC n m) te.bytes],rd:=[j],gJ:= .app j (.cc true nv t s (dC n m) aR)}
     else none
    | none=>none
   | none=>none
  | _,_=>none
 | .slice t,.bT=>
  match aS T t with
  | some te=>
   match gI T te with
   | some z=>
    if te.size=bX z then
     some {val:= .vv nv,vcs:=dG (.lit 0) m++[oW m te.bytes],gJ:= .own (.cc true nv t te.size m z)}
    else none
   | none=>none
  | none=>none
 | _,_=>none
def uN(T:List TI)(hp:List Ck)(nv:Nat)(k:TK)(x y:SV):Option gU:=
 match k,x with
 | .slice t,.sl b i s n m=>
  match aS T t,findAt hp b,eU i,eU n with
  | some te,some (j,.row _ true cs),some 0,some q=>
   match rowOf cs,By T hp te y with
   | some (ki::kl,a),some sc=>
    if n=m∧s=1∧te.size=1∧kl.length+1=q∧ki::kl=List.replicate q ki then
     (gu (.lit q) sc.n [⟨.int ki,1,a⟩] sc.aA).map fun aR=>
      {val:= .vv nv,vcs:=sc.vcs++dG (.lit 0) sc.n++[oW (dC (.lit q) sc.n) te.bytes],rd:=j::sc.rd,gJ:= .app j (.cc true nv t 1 (dC (.lit q) sc.n) aR)}
    else none
   | _,_=>none
  | _,_,_,_=>none
 | _,_=>none
def w6:List SV→Option (List Nat)
 | []=>some []
 | .vv i::r=>(w6 r).map (i:: ·)
 | _=>none
def tB(hp:List Ck):SV→Option (Nat×List Nat)
 | .sl b i _ n _=>
  match findAt hp b,eU i,eU n with
  | some (j,.row _ _ cs),some 0,some q=>
   match w6 cs with
   | some l=>if l.length=q then some (j,l)else none
   | none=>none
  | _,_,_=>none
 | _=>none
def uO(T:List TI)(hp:List Ck)(nv:Nat)(k:TK)(x y:SV):Option gU:=
 match k,x with
 | .slice t,.sl b i s n m=>
  match aS T t,tB hp (.sl b i s n m),tB hp y with
  | some te,some (j,l),some (j',l')=>
   if n=m∧te.size=1∧l'.length≠0∧(l.length+l'.length)*te.bytes≤140737488355328∧l.length+l'.length≤140737488355328 then
    some {val:= .vv nv,rd:=[j,j'],gJ:= .own (.cc true nv t 1 (.lit (l.length+l'.length:Nat)) [⟨.Gk (l++l'),1,.lit 0⟩])}
   else none
  | _,_,_=>none
 | _,_=>none
def vq(T:List TI)(hp:List Ck)(nv:Nat)(tt:TI)(ts Un:Nat)(x y:SV):Option gU:=
 if ts=Un then(match vp T hp nv tt.k x y with | some r=>some r | none=>match sQ T hp nv tt.k x y with | some r=>some r | none=>match uN T hp nv tt.k x y with | some r=>some r | none=>uO T hp nv tt.k x y)else(match aS T Un,y with
    | some ti,.int _ m=>match ti.k with
     | .int _=>BT T hp nv tt.k x m
     | _=>none
    | _,_=>none)
def Mk(a:E)(i:Nat):Option Int:=
 match gv a (.lit i)with
 | .lit n=>some n
 | _=>none
def uJ(a:E):Nat→Option (List Int)
 | 0=>some []
 | n+1=>match uJ a n,Mk a n with
  | some l,some x=>some (l++[x])
  | _,_=>none
def PH(n:Nat)(a:E):E:=
 match uJ a n with
 | some l=> .lit (bM l:Nat)
 | none=> .kc n a
def si:List gl→Option (List IntKind)
 | []=>some []
 | some k::r=>(si r).map (k:: ·)
 | none::_=>none
def qa(ti:TI):Option (List IntKind×Bool):=
 match ti.k with
 | .int k=>some ([k],false)
 | .struct _=>if ti.lay.isEmpty then none else(si (j_ ti.lay)).map fun l=>(l,true)
 | .arr .. =>if ti.lay.isEmpty then none else(si (j_ ti.lay)).map fun l=>(l,true)
 | _=>none
def tw(ka:Bool)(k:SV):Option (List SV):=
 match ka,k with
 | true,.agg cs=>some cs
 | false,.int q e=>some [.int q e]
 | _,_=>none
def uK(T:List TI)(te:TI):Option (List bV):=
 if te.size=0 then(if te.zero.isEmpty&&te.k.agg then some []else none)else gI T te
def Ck.isMap(b:Nat):Ck→Bool
 | .map b' .. =>b==b'
 | .ni b' .. =>b==b'
 | _=>false
def w5(hp:List Ck)(b:Nat):Option (Nat×Ck):=
 match hp.findIdx? (Ck.isMap b)with
 | some i=>(hp[i]?).map fun c=>(i,c)
 | none=>none
def ff:List SV→List SV→Bool
 | [],[]=>true
 | .int k (.lit n)::r,.int k' (.lit m)::s=>k==k'&&n==m&&ff r s
 | .bool (.lit a)::r,.bool (.lit b)::s=>a==b&&ff r s
 | .aX k n (.lit a)::r,.aX k' n' (.lit b)::s=>k==k'&&n==n'&&a==b&&ff r s
 | .dT::r,.dT::s=>ff r s
 | .bT::r,.bT::s=>ff r s
 | .oh::r,.oh::s=>ff r s
 | .s6::r,.s6::s=>ff r s
 | .hU::r,.hU::s=>ff r s
 | .str l::r,.str l'::s=>l==l'&&ff r s
 | _,_=>false
def TK.isSlice:TK→Bool
 | .slice _=>true
 | _=>false
def sj(T:List TI)(nb t:Nat):Option gU:=
 match aS T t with
 | some {k:= .map kt vt,.. }=>
  match aS T kt,aS T vt with
  | some tk,some tv=>
   match qa tk,(if tv.k.isSlice then none else uK T tv)with
   | some (kl,ka),some aA=>some {val:= .mp nb,gJ:= .new (.map nb kl ka tv.k.agg tv.zero (.lit 0) aA)}
   | some (kl,ka),none=>some {val:= .mp nb,gJ:= .new (.ni nb kl ka tv.k.agg tv.zero [])}
   | _,_=>none
  | _,_=>none
 | _=>none
def uM(T:List TI)(hp:List Ck)(t:Nat)(x k:SV)(comma:Bool):Option gU:=
 match aS T t with
 | some {k:= .map kt vt,.. }=>
  match aS T kt,aS T vt with
  | some tk,some tv=>
   match qa tk with
   | some (kl,ka)=>
    match tw ka k with
    | some kc=>
     match rowOf kc with
     | some (Lz,a)=>
      if Lz≠kl then none else
      match x with
      | .hU=>(iz tv.k.agg tv.zero).map fun v=>{val:=if comma then .j7 [v,.bool (.lit false)]else v}
      | .mp b=>
       match w5 hp b with
       | some (j,.map _ yx Mn JQ AR has aA)=>
        if yx=kl∧Mn=ka∧JQ=tv.k.agg∧ff AR tv.zero=true then
         match nL (PH kl.length a) aA with
         | some es=>(iz tv.k.agg es).map fun v=>{val:=if comma then .j7 [v,.bool (Pp (gv has (PH kl.length a)))]else v,rd:=[j]}
         | none=>none
        else none
       | some (j,.ni _ yx Mn JQ AR es)=>
        if yx=kl∧Mn=ka∧JQ=tv.k.agg∧ff AR tv.zero=true then
         match PH kl.length a with
         | .lit n=>(iz tv.k.agg (nj es AR n.toNat)).map fun v=>{val:=if comma then .j7 [v,.bool (.lit (pU es n.toNat))]else v,rd:=[j]}
         | _=>none
        else none
       | _=>none
      | _=>none
     | none=>none
    | none=>none
   | none=>none
  | _,_=>none
 | _=>none
def BS:SV→Bool
 | .agg _=>true
 | .aX .. =>true
 | _=>false
def qK(T:List TI)(hp:List Ck)(t:Nat)(x k v:SV):Option gU:=
 match aS T t with
 | some {k:= .map kt vt,.. }=>
  match aS T kt,aS T vt with
  | some tk,some tv=>
   match qa tk with
   | some (kl,ka)=>
    match tw ka k,er v with
    | some kc,some vs=>
     match rowOf kc,x with
     | some (Lz,a),.mp b=>
      match w5 hp b with
      | some (j,.map b' yx Mn JQ zero has aA)=>
       if Lz=kl∧yx=kl∧Mn=ka∧JQ=tv.k.agg∧jO vs=bX aA∧BS v=tv.k.agg then
        match kR (PH kl.length a) vs aA with
        | some aR=>some {val:= .undef,rd:=[j],gJ:= .set j (.map b' kl ka JQ zero (.cV has (PH kl.length a) (.lit 1)) aR)}
        | none=>none
       else none
      | some (j,.ni b' yx Mn JQ zero es)=>
       if Lz=kl∧yx=kl∧Mn=ka∧JQ=tv.k.agg∧BS v=tv.k.agg then
        match PH kl.length a with
        | .lit n=>some {val:= .undef,rd:=[j],gJ:= .set j (.ni b' kl ka JQ zero (Ai n.toNat vs es))}
        | _=>none
       else none
      | _=>none
     | _,_=>none
    | _,_=>none
   | none=>none
  | _,_=>none
 | _=>none
def bytesOf(T:List TI)(nv:Nat)(k:TK)(v:SV):Option gU:=
 match k with
 | .slice e=>
  match aS T e,pJ v with
  | some te,some s=>if te.k= .int .u8∧te.size=1 then some {val:= .vv nv,vcs:=[wF (.lit 0) (j9 s)].filter (fun b=>b != .lit true),gJ:= .DL (.cc false nv e 1 (j9 s) [⟨.int .u8,1,Ju s⟩])}else none
  | _,_=>none
 | _=>none
def zB(T:List TI)(nv:Nat)(k:TK)(l:List UInt8):Option gU:=
 match k with
 | .slice e=>
  match aS T e with
  | some te=>if te.k= .int .u8∧te.size=1∧l.length≤1000 then some {val:= .vv nv,gJ:= .own (.cc true nv e 1 (.lit l.length) [⟨.int .u8,1,.pk (l.map fun b=>(b.toNat:Int))⟩])}else none
  | none=>none
 | _=>none
def q8(a n:E):E:=
 match eU n with
 | some k=>match uJ a k with
  | some l=> .pk ((k:Int)::l)
  | none=>rX a n
 | none=>rX a n
def CL(hp:List Ck):SV→Option gU
 | .bT=>some {val:= .str []}
 | .sl b i 1 n _=>
  match findAt hp b,eU i,eU n with
  | some (j,.row _ _ cs),some i,some n=>
   match jc i n cs with
   | some xs=>
    match rowOf xs with
    | some (kl,a)=>if kl=List.replicate n .u8 then some {val:=mkStr (q8 a (.lit n)),rd:=[j]}else none
    | none=>none
   | none=>none
  | some (j,.row _ _ [.aX .u8 m a]),some 0,none=>some {val:=mkStr (q8 a n),vcs:=[wF n (.lit m)].filter (fun b=>b != .lit true),rd:=[j]}
  | _,_,_=>none
 | .vv v=>
  match dN hp v with
  | some (j,.cc _ _ _ 1 n [⟨.int .u8,1,a⟩])=>some {val:=mkStr (q8 a n),rd:=[j]}
  | _=>none
 | .iC v cs s=>
  match gf hp (.iC v cs s)with
  | some r=>match gZ r.p.lo r.aA with
   | some [⟨.int .u8,1,a⟩]=>if r.s=1∧r.s=bX r.aA then some {val:=mkStr (q8 a r.p.len),vcs:=r.vcs++dG (.lit 0) r.p.len,rd:=[r.j]}else none
   | _=>none
  | none=>none
 | _=>none
def n9(T:List TI)(hp:List Ck)(src:TypeId)(v:SV):Option gU:=
 match aS T src with
 | some ts=>
  match ts.k with
  | .slice e=>
   match aS T e with
   | some te=>if te.k= .int .u8 then CL hp v else none
   | none=>none
  | _=>none
 | none=>none
def zC(ti:TI)(op:BinOp)(y:Operand)(a:SV):Option gU:=
 match ti.k,y,a with
 | .iface,.const .nilIface,.s6=>
  match op with
  | .eql=>some {val:= .bool (.lit true)}
  | .neq=>some {val:= .bool (.lit false)}
  | _=>none
 | .iface,.const .nilIface,.LV .. =>
  match op with
  | .eql=>some {val:= .bool (.lit false)}
  | .neq=>some {val:= .bool (.lit true)}
  | _=>none
 | .iface,.const .nilIface,.Ge c _=>
  match op with
  | .eql=>some {val:= .bool (iE c)}
  | .neq=>some {val:= .bool c}
  | _=>none
 | _,_,_=>none
def yp(look:Nat→Option SV):Option Operand→Option (Option E)
 | none=>some none
 | some o=>match iG look o with
  | some (.int _ e)=>some (some e)
  | _=>none
def Ck.V2(b:Nat):Ck→Bool
 | .Ly b' _ _=>b==b'
 | _=>false
def I_(hp:List Ck):SV→Option gU
 | .ptr b 0=>
  match hp.findIdx? (Ck.V2 b)with
  | some j=>match hp[j]? with
   | some (.Ly b' l pos)=>
    if b=b' then
     match l[pos]? with
     | some c=>if c.toNat<128 then some {val:= .j7 [.bool (.lit true),.int .i64 (.lit pos),.int .i32 (.lit c.toNat)],rd:=[j],gJ:= .set j (.Ly b' l (pos+1))}else none
     | none=>some {val:= .j7 [.bool (.lit false)],rd:=[j]}
    else none
   | _=>none
  | none=>none
 | _=>none
def dB(T:List TI)(look:Nat→Option SV)(hp:List Ck)(nb nv:Nat)(o:Oper):Option gU:=
 let ev:=iG look
 match o.op with
 | .move x | .assign x=>(ev x).map fun v=>{val:=v}
 | .pick c a b=>
  match ev c,ev a,ev b with
  | some (.bool c),some a,some b=>(CH c a b).map fun v=>{val:=v}
  | _,_,_=>none
 | .alloc t=>(aS T t).bind fun ti=>match ti.k with
  | .H7 _ e=>if ff ti.zero [.dT,.bT]then some {val:= .ptr nb 0,gJ:= .new (.H7 nb t e (.lit 0) (.lit 0))}else none
  | _=>some {val:= .ptr nb 0,gJ:= .new (.row nb true ti.zero)}
 | .box _ x=>
  match ev x with
  | some v=>(er v).map fun cs=>{val:= .ptr nb 0,gJ:= .new (.row nb true cs)}
  | none=>none
 | .build t parts=>
  match aS T t,partsOf look parts.toList with
  | some ti,some ps=>
   match ti.k with
   | .struct fs=>if pV T fs then(jW (gB T fs) ti.zero ps).map fun cs=>{val:= .agg cs}else none
   | .arr _ e=>
    match aS T e with
    | some te=>(jW (jN te.size) ti.zero ps).map fun cs=>{val:= .agg cs}
    | none=>none
   | _=>none
  | _,_=>none
 | .buildSlice t len parts=>
  match aS T t,partsOf look parts.toList with
  | some ti,some ps=>
   match ti.k with
   | .slice e=>
    match aS T e with
    | some te=>if len=0 then(if ps.isEmpty then(gI T te).map fun z=>{val:= .vv nv,gJ:= .own (.cc true nv e te.size (.lit 0) z)}else none)else if te.size=0∨1000<len*te.size then none else(jW (jN te.size) (List.replicate len te.zero).flatten ps).map fun cs=>{val:= .sl nb (.lit 0) te.size (.lit len) (.lit len),gJ:= .new (.row nb true cs)}
    | none=>none
   | _=>none
  | _,_=>none
 | .load t x=>
  match aS T t,ev x with
  | some ti,some a=>wZ hp ti.k.agg ti.size a
  | _,_=>none
 | .store t x y=>
  match aS T t,ev x,ev y with
  | some ti,some a,some v=>ye hp ti.size v a
  | _,_,_=>none
 | .nilCheck x=>
  match ev x with
  | some (.ptr b c)=>some {val:= .ptr b c}
  | some (.pq b i s c)=>some {val:= .pq b i s c}
  | some (.cO e)=>some {val:= .cO e,vcs:=[Pp e]}
  | some (.pv v i s c)=>match dN hp v with
   | some (j,.cc _ _ _ _ n _)=>some {val:= .pv v i s c,vcs:=gS i n,rd:=[j]}
   | _=>none
  | some (.fn f cs)=>some {val:= .fn f cs}
  | _=>none
 | .binOp op t x y _=>
  match aS T t,ev x,ev y with
  | some ti,some a,some b=>match zC ti op y a with
   | some r=>some r
   | none=>nh ti op a b
  | _,_,_=>none
 | .unOp op _ x=>
  match op,ev x with
  | .not,some (.bool b)=>some {val:= .bool (iE b)}
  | .xor,some (.int k a)=>some {val:= .int k (uB .cr k (.lit (if uf k then -1 else IntKind.hi k)) a)}
  | .neg,some (.int k a)=>some {val:= .int k (yh k (rV (.lit 0) a)).1,vcs:=(yh k (rV (.lit 0) a)).2}
  | _,_=>none
 | .convert src dst x=>
  match aS T src,aS T dst,ev x with
  | some _,some ti,some (.int _ a)=>
   match ti.k with
   | .int k=>some {val:= .int k (yi k a).1,vcs:=(yi k a).2}
   | _=>none
  | some ts,some ti,some (.str l)=>if ts.k= .str then zB T nv ti.k l else none
  | some ts,some ti,some (.kE s)=>if ts.k= .str then bytesOf T nv ti.k (.kE s)else none
  | some _,some ti,some (.sl b i s n m)=>
   match ti.k with
   | .slice e=>
    match aS T e,findAt hp b with
    | some te,some (j,.row b' true cs)=>if src=dst∧te.k= .int .u8 then some {val:= .sl b i s n m,rd:=[j],gJ:= .set j (.row b' false cs)}else none
    | _,_=>none
   | .str=>n9 T hp src (.sl b i s n m)
   | _=>none
  | some _,some ti,some (.vv v)=>if ti.k= .str then n9 T hp src (.vv v)else none
  | some _,some ti,some (.iC v cs s)=>if ti.k= .str then n9 T hp src (.iC v cs s)else none
  | some _,some ti,some .bT=>if ti.k= .str then n9 T hp src .bT else none
  | _,_,_=>none
 | .makeInterface t x=>
  match aS T t,ev x with
  | some ti,some (.int k e)=>if ti.k= .int k then some {val:= .LV t k e}else none
  | _,_=>none
 | .sliceToArrayPointer arr x=>
  match aS T arr,ev x with
  | some ta,some v=>
   match ta.k with
   | .arr n e=>
    match aS T e with
    | some _=>
     if n=0 then none else
     match v with
     | .sl b i s m _=>some {val:=DO b i s 0,vcs:=dG (.lit n) m}
     | v=>
      match gf hp v with
      | some r=>some {val:= .pv r.v r.p.lo r.s 0,vcs:=r.vcs++dG (.lit n) r.p.len,rd:=[r.j]}
      | none=>none
    | none=>none
   | _=>none
  | _,_=>none
 | .fieldAddr s x f=>
  match aS T s,ev x with
  | some ts,some a=>
   match ts.k with
   | .struct fs=>
    match fs[f]? with
    | some (t,off)=>
     match aS T t with
     | some ti=>if ti.size=0 then none else
      match a with
      | .ptr b c=>some {val:= .ptr b (c+off)}
      | .pq b i s c=>some {val:= .pq b i s (c+off)}
      | .pv v i s c=>
       match dN hp v with
       | some (j,.cc _ _ _ _ n _)=>some {val:= .pv v i s (c+off),vcs:=gS i n,rd:=[j]}
       | _=>none
      | _=>none
     | none=>none
    | none=>none
   | _=>none
  | _,_=>none
 | .field s x f=>
  match aS T s,ev x with
  | some ts,some (.agg cs)=>
   match ts.k with
   | .struct fs=>
    match fs[f]? with
    | some (t,off)=>
     match aS T t with
     | some ti=>
      match jc off ti.size cs with
      | some x=>(iz ti.k.agg x).map fun v=>{val:=v}
      | none=>none
     | none=>none
    | none=>none
   | _=>none
  | _,_=>none
 | .indexAddr t x y=>
  match aS T t,ev x,ev y with
  | some tt,some a,some (.int _ j)=>
   match tt.k with
   | .slice e=>
    match aS T e with
    | some te=>
     match a with
     | .sl b i s n _=>if te.size=s then some {val:=DO b (dC i j) s 0,vcs:=oA i++gS j n}else none
     | a=>
      match gf hp a with
      | some r=>if te.size=r.s then some {val:= .pv r.v (dC r.p.lo j) r.s 0,vcs:=r.vcs++gS j r.p.len,rd:=[r.j]}else none
      | none=>none
    | none=>none
   | .arr n e=>
    match aS T e with
    | some te=>
     match a with
     | .ptr b c=>some {val:=DO b j te.size c,vcs:=gS j (.lit n)}
     | _=>none
    | none=>none
   | _=>none
  | _,_,_=>none
 | .index t x y=>
  match aS T t,ev x,ev y with
  | some tt,some (.agg cs),some (.int _ j)=>
   match tt.k with
   | .arr n e=>
    match aS T e with
    | some te=>
     match eU j with
     | some l=>if l<n then(match jc (l*te.size) te.size cs with
      | some x=>(iz te.k.agg x).map fun v=>{val:=v}
      | none=>none)else none
     | none=>
      match cs with
      | [.aX k m a]=>if m=n∧te.size=1∧te.k.agg=false then some {val:= .int k (gv a j),vcs:=gS j (.lit n)}else none
      | _=>none
    | none=>none
   | _=>none
  | some tt,some v,some (.int _ j)=>if tt.k= .str then HI v j else none
  | _,_,_=>none
 | .extract x i=>
  match ev x with
  | some (.j7 vs)=>(vs[i]?).map fun v=>{val:=v}
  | _=>none
 | .makeFunc fn first jB=>
  match fn,first.toList with
  | .func f,[]=>(jg (jB.toList.map ev)).map fun cs=>{val:= .fn f cs}
  | _,_=>none
 | .call c=>
  match c.callee,c.args.toList,c.argTypes.toList with
  | .builtin .len,[x],[t]=>
   match aS T t,ev x with
   | some tt,some v=>HJ hp tt.k v
   | _,_=>none
  | .builtin .cap,[x],[t]=>
   match aS T t,ev x with
   | some tt,some .bT=>match tt.k with
    | .slice _=>some {val:= .int .i64 (.lit 0)}
    | _=>none
   | _,_=>none
  | .builtin .max,[x,y],_=>
   match ev x,ev y with
   | some (.int k a),some (.int _ b)=>some {val:= .int k (uB .imax k a b)}
   | _,_=>none
  | .builtin .min,[x,y],_=>
   match ev x,ev y with
   | some (.int k a),some (.int _ b)=>some {val:= .int k (uB .Sc k a b)}
   | _,_=>none
  | .builtin .append,[x,y],[ts,Un]=>
   match aS T ts,ev x,ev y with
   | some tt,some x,some y=>vq T hp nv tt ts Un x y
   | _,_,_=>none
  | .builtin .clear,[x],[t]=>
   match aS T t,ev x with
   | some tt,some v=>zA T hp tt.k v
   | _,_=>none
  | .builtin .copy,[x,y],[ts,Un]=>
   match aS T ts,ev x,ev y with
   | some tt,some x,some y=>if ts=Un then CI T hp tt.k x y else none
   | _,_,_=>none
  | _,_,_=>none
 | .slice t x lo hi mx=>
  match aS T t,ev x,yp look lo,yp look hi,yp look mx with
  | some tt,some v,some l,some h,some m=>if tt.k= .str then(if m.isSome then none else zz v l h)else yu T hp tt.k v l h m
  | _,_,_,_,_=>none
 | .makeMap t none=>sj T nb t
 | .lookup t x k comma=>
  match ev x,ev k with
  | some x,some k=>uM T hp t x k comma
  | _,_=>none
 | .mapUpdate t x k v=>
  match ev x,ev k,ev v with
  | some x,some k,some v=>qK T hp t x k v
  | _,_,_=>none
 | .insert t x k v=>
  match ev x,ev k,ev v with
  | some x,some k,some v=>qK T hp t x k v
  | _,_,_=>none
 | .makeSlice t n c=>
  match aS T t,ev n,ev c with
  | some tt,some (.int _ n),some (.int _ c)=>CJ T nv tt.k n c
  | _,_,_=>none
 | .range t x=>
  match aS T t,ev x with
  | some ti,some (.str l)=>if ti.k= .str then some {val:= .ptr nb 0,gJ:= .new (.Ly nb l 0)}else none
  | _,_=>none
 | .next x true=>(ev x).bind (I_ hp)
 | _=>none
end Go.RX
