/- Executor. -/
import Derived.Test.YtllcdnkfbeokhaaGreatM00
namespace Go.RX
inductive CK where
 | int (k:IntKind) | bool | val (i:Nat) | ptr | bu | str | cv | FP (l:List Nat) | pt (i:E) (v:Nat)
 deriving DecidableEq,Repr
structure bL where
 ck:CK
 w:Nat
 a:E
 deriving DecidableEq,Repr
inductive Jump where
 | none | ret | exit (id:Nat)
 deriving DecidableEq,Repr
def Jump.code:Jump→Option Code
 | .none=>Option.none
 | .ret=>some .ret
 | .exit id=>some (.exit id)
inductive RS where
 | ready | busy | done | exhausted
 deriving DecidableEq,Repr
def RS.st:RS→LoopState
 | .ready=> .ready
 | .busy=> .busy
 | .done=> .done
 | .exhausted=> .exhausted
inductive Ck where
 | emp
 | row (b:Nat) (wr:Bool) (cs:List SV)
 | cr (md:Bool) (v t s:Nat) (n:E) (ay:List bL)
 | abs (i:Nat)
 | lG (l r:Nat) (s:RS) (j:Jump)
 | JV (b:Nat)
 | tY (b:Nat)
 | map (b:Nat) (kl:List IntKind) (ka va:Bool) (zero:List SV) (has:E) (ay:List bL)
 | tM (b:Nat) (kl:List IntKind) (ka va:Bool) (zero:List SV) (es:List (Nat×List SV))
 | Ih (b t e:Nat) (n a:E)
 | LH (b:Nat) (l:List UInt8) (pos:Nat)
 | ME (b m:Nat)
 deriving Repr,Inhabited
def aC(k:IntKind)(w:Nat)(f:Nat→Int)(i:Nat):List Value:=aj k w fun j=>f (i*w+j)
def ij(w:Nat)(f:Nat→Int)(i:Nat):List Value:=(List.range w).map fun j=> .bool (!(f (i*w+j)==0))
def fN(w:Nat)(f:Nat→Value)(i:Nat):List Value:=(List.range w).map fun j=>f (i*w+j)
def tH(w:Nat)(f:Nat→Int)(i:Nat):List Value:=(List.range w).map fun j=>cA (f (i*w+j))
def bL.cells(ρ:Env)(c:bL):Nat→List Value:=
 match c.ck with
 | .int k=>aC k c.w (c.a.den ρ)
 | .bool=>ij c.w (c.a.den ρ)
 | .val v=>fN c.w fun j=>((ρ.va.getD v fun _=>V1.nil) j).v
 | .ptr=>tH c.w (c.a.den ρ)
 | .bu=>fN c.w fun _=> .slice none 0 0
 | .str=>fN c.w fun j=> .string ⟨(dc (pW (c.a.den ρ) j)).toArray⟩
 | .cv=>fN c.w fun j=>cX (c.a.den ρ j)
 | .FP l=>fN c.w fun j=>((l[j]?).elim V1.nil fun n=>ρ.vv.getD n V1.nil).v
 | .pt i v=>fN c.w fun j=>if j=(i.den ρ 0).toNat then(ρ.vv.getD v V1.nil).v else cX (c.a.den ρ j)
def aK(n:Nat)(cs:List (Nat→List Value)):List Value:=(List.range n).flatMap fun i=>cs.flatMap fun c=>c i
def aF(ρ:Env)(n:Nat)(ay:List bL):List Value:=aK n (ay.map (bL.cells ρ))
def jU(es:List (Nat×List SV))(zero:List SV)(k:Nat):List SV:=
 match es with
 | []=>zero
 | (i,v)::r=>if i=k then v else jU r zero k
def qw(es:List (Nat×List SV))(k:Nat):Bool:=
 match es with
 | []=>false
 | (i,_)::r=>if i=k then true else qw r k
def lM(k:Nat)(v:List SV):List (Nat×List SV)→List (Nat×List SV)
 | []=>[(k,v)]
 | (i,u)::r=>if i=k then(k,v)::r else(i,u)::lM k v r
def Ta(es:List (Nat×List Value))(zero:List Value)(k:Nat):List Value:=
 match es with
 | []=>zero
 | (i,v)::r=>if i=k then v else Ta r zero k
def CT(ρ:Env)(es:List (Nat×List SV)):List (Nat×List Value):=
 match es with
 | []=>[]
 | (i,v)::r=>(i,SV.ao ρ v)::CT ρ r
theorem I2(ρ:Env)(zero:List SV)(k:Nat): ∀es:List (Nat×List SV),Ta (CT ρ es) (SV.ao ρ zero) k=SV.ao ρ (jU es zero k)
 | []=>rfl
 | (i,v)::r=>by simp only [CT,Ta,jU];split<;>first | rfl | exact I2 ρ zero k r
def je:Loop:=⟨.ready,none,0,#[],#[],.skip,.skip,0⟩
noncomputable def Ck.den(ρ:Env):Ck→HP
 | .emp=>HP.emp
 | .row b wr cs=>ak (ρ.bv.getD b 0) wr (SV.ao ρ cs)
 | .cr md v t s n ay=>aB md t s (ρ.vv.getD v V1.nil).v (n.den ρ 0).toNat (aF ρ (n.den ρ 0).toNat ay)
 | .abs i=>ρ.pv.getD i HP.emp
 | .lG l r s j=>Mn (ρ.bv.getD l 0) {ρ.lr.getD r je with state:=s.st,pending:=j.code}
 | .JV b=>yu (ρ.bv.getD b 0)
 | .tY b=>lE (qk (ρ.bv.getD b 0))
 | .map b kl ka va zero has ay=>nQ (ρ.bv.getD b 0) kl ka va (SV.ao ρ zero) (has.den ρ) fun i=>(ay.map (bL.cells ρ)).flatMap fun c=>c i
 | .tM b kl ka va zero es=>tD (ρ.bv.getD b 0) kl ka va (SV.ao ρ zero) (fun i=>qw es i) fun i=>Ta (CT ρ es) (SV.ao ρ zero) i
 | .Ih b t e n a=>TG (ρ.bv.getD b 0) t e (aj .u8 (n.den ρ 0).toNat (a.den ρ))
 | .LH b l pos=>TE (ρ.bv.getD b 0) l pos
 | .ME b m=>TF (ρ.bv.getD b 0) (ρ.bv.getD m 0)
theorem Ck.lh(ρ:Env)(b:Nat)(kl:List IntKind)(ka va:Bool)(zero:List SV)(es:List (Nat×List SV)):
  Ck.den ρ (.tM b kl ka va zero es)=tD (ρ.bv.getD b 0) kl ka va (SV.ao ρ zero) (fun i=>qw es i) fun i=>SV.ao ρ (jU es zero i):=by
 simp only [Ck.den,I2]
inductive TK where
 | int (k:IntKind) | bool | str | ptr (e:Nat) | slice (e:Nat) | arr (n e:Nat) | struct (fs:List (Nat×Nat)) | map (k e:Nat) | func | iface | Ih (fs:List (Nat×Nat)) (e:Nat)
 deriving DecidableEq,Repr
abbrev iB:=Option IntKind
structure TI where
 t:Nat
 k:TK
 size:Nat
 bytes:Nat
 zero:List SV
 lay:List (iB×Nat):=[]
 deriving Repr
def kZ:List (iB×Nat)→List iB
 | []=>[]
 | (k,n)::r=>List.replicate n k++kZ r
def qv:List SV→List iB→Bool
 | [],[]=>true
 | .int k _::r,some k'::l=>k==k'&&qv r l
 | .bool _::r,none::l=>qv r l
 | .cQ k n _::r,l=>decide (n≤l.length)&&(l.take n).all (· ==some k)&&qv r (l.drop n)
 | _,_=>false
def aP(T:List TI)(t:Nat):Option TI:=T.find? fun i=>i.t==t
def TK.agg:TK→Bool
 | .arr .. =>true
 | .struct _=>true
 | .Ih .. =>true
 | _=>false
def dB:E→E→E
 | .lit a,.lit b=> .lit (a+b)
 | .lit 0,b=>b
 | a,.lit 0=>a
 | a,b=> .bin .add .i64 a b
def sC:E→E→E
 | .lit a,.lit b=> .lit (a - b)
 | a,.lit 0=>a
 | a,b=> .bin .sub .i64 a b
def ql:E→E→E
 | .lit a,.lit b=> .lit (a*b)
 | .lit 1,b=>b
 | a,.lit 1=>a
 | a,b=> .bin .mul .i64 a b
def kF:E→E→E
 | a,.lit 0=>a
 | .lit n,_=> .lit n
 | a,o=> .shift a o
def E.YO:E→Bool
 | .lit _=>true
 | .var _=>true
 | .Qk .. =>true
 | .bin .. =>true
 | .wrap .. =>true
 | .kc .. =>true
 | .sA _=>true
 | _=>false
def BR(v:E):E:=if v.YO then v else .Qk v (.lit 0)
def BS:E→E→E
 | .lit n,_=> .lit n
 | .qi a (.lit j) s,.lit i=>if i.toNat=j.toNat then s else BS a (.lit i)
 | .qi a j s,i=>if i=j then s else .QU (.qi a j s) i
 | a,i=> .QU a i
def eu:E→E→E
 | .lit n,_=> .lit n
 | .pV l,.lit i=> .lit (l.getD i.toNat 0)
 | .m7 b (.lit j) v,.lit i=>if i.toNat=j.toNat then BR v else eu b (.lit i)
 | .shift b (.lit o),.lit i=>eu b (.lit (o.toNat+i.toNat:Nat))
 | .jl b (.lit o) (.lit n) x,.lit i=>if o.toNat≤i.toNat∧i.toNat<o.toNat+n.toNat then eu x (.lit (i.toNat - o.toNat:Nat))else eu b (.lit i)
 | .m7 b i v,i'=>if i=i' then BR v else .Qk (.m7 b i v) i'
 | a,i=> .Qk a i
def sG(o:YM)(k:IntKind):E→E→E
 | .lit a,.lit b=> .lit (ar o k a b)
 | a,b=> .bin o k a b
def Mt(k:IntKind):E→E
 | .lit a=> .lit (k.wrap a)
 | a=> .wrap k a
def Q0:E→BE
 | .lit n=> .lit (!(n==0))
 | a=> .nz a
def Ql:E→E→BE
 | .lit a,.lit b=> .lit (a==b)
 | a,b=>if a=b then .lit true else .eq a b
def Gf:E→E→BE
 | .lit a,.lit b=> .lit (decide (a<b))
 | a,b=> .lt a b
def wz:E→E→BE
 | .lit a,.lit b=> .lit (decide (a≤b))
 | a,b=> .le a b
def jT:BE→BE
 | .lit b=> .lit (!b)
 | .not b=>b
 | b=> .not b
def Ax:BE→BE→BE
 | .lit true,b=>b
 | .lit false,_=> .lit false
 | a,.lit true=>a
 | a,b=> .and a b
def bOr:BE→BE→BE
 | .lit false,b=>b
 | .lit true,_=> .lit true
 | a,.lit false=>a
 | a,b=> .or a b
def DC:BE→BE→BE→BE
 | .lit true,a,_=>a
 | .lit false,_,b=>b
 | c,.lit true,b=>bOr c b
 | c,a,.lit false=>Ax c a
 | c,a,b=> .ite c a b
def Aw(l:List UInt8):E:= .pV ((l.length:Int)::l.map fun b=>((b.toNat:Nat):Int))
def qm:SV→Option E
 | .str l=>some (Aw l)
 | .lD s=>some s
 | _=>none
def mkStr:E→SV
 | .pV (n::l)=>if(n==(l.length:Int))&&l.all (fun b=>decide (0≤b)&&decide (b<256))then .str (l.map fun b=>UInt8.ofNat b.toNat)else .lD (.pV (n::l))
 | s=> .lD s
def kX(s:E):E:=eu s (.lit 0)
def Jw:E→E
 | .pV (n::l)=>if l.all (fun b=>decide (0≤b)&&decide (b<256))then .pV l else .TB (.pV (n::l))
 | s=> .TB s
def sF(a n:E):E:= .m7 (.jl (.lit 0) (.lit 1) n a) (.lit 0) n
def A_(s lo hi:E):E:=
 match s with
 | .m7 x (.lit 0) _=> .m7 (kF x lo) (.lit 0) (sC hi lo)
 | s=> .m7 (kF s lo) (.lit 0) (sC hi lo)
def Jz(s t:E):E:= .m7 (.jl s (dB (kX s) (.lit 1)) (kX t) (kF t (.lit 1))) (.lit 0) (dB (kX s) (kX t))
def QZ(a b:E):BE:=if a=b then .lit true else .seq a b
mutual
def SV.width:SV→Nat
 | .cQ _ n _=>n
 | .agg cs=>SV.o3 cs
 | _=>1
def SV.o3:List SV→Nat
 | []=>0
 | v::r=>SV.width v+SV.o3 r
end
abbrev j8(cs:List SV):Nat:=SV.o3 cs
def gg:Nat→List SV→Option (List SV)
 | 0,cs=>some cs
 | _+1,[]=>some []
 | _+1,.agg _::_=>none
 | d+1,.cQ k n a::r=>if d+1<n then some (.cQ k (n - (d+1)) (kF a (.lit (d+1:Nat)))::r)else gg (d+1 - n) r
 | d+1,_::r=>gg d r
def iT:Nat→List SV→Option (List SV)
 | 0,_=>some []
 | _+1,[]=>some []
 | _+1,.agg _::_=>none
 | d+1,.cQ k n a::r=>if d+1≤n then some [.cQ k (d+1) a]else(iT (d+1 - n) r).map (.cQ k n a:: ·)
 | d+1,v::r=>(iT d r).map (v:: ·)
def jy(c size:Nat)(cs:List SV):Option (List SV):=
 if c+size≤j8 cs then
  match gg c cs with
  | some r=>iT size r
  | none=>none
 else none
def uZ(c:Nat)(vs cs:List SV):Option (List SV):=
 if c+j8 vs≤j8 cs then
  match iT c cs,gg (c+j8 vs) cs with
  | some a,some b=>some (a++vs++b)
  | _,_=>none
 else none
def iU(agg:Bool)(cs:List SV):Option SV:=
 if agg then some (.agg cs)else
 match cs with
 | [.cQ k 1 a]=>some (.int k (eu a (.lit 0)))
 | [.cQ ..]=>none
 | [.agg _]=>none
 | [v]=>some v
 | _=>none
def SV.one:SV→Bool
 | .agg _=>false
 | .opt .. =>false
 | .undef=>false
 | .nO _=>false
 | _=>true
def eM:SV→Option (List SV)
 | .agg cs=>if cs.all SV.one then some cs else none
 | v=>if v.one then some [v]else none
mutual
def ofValue:Value→Option SV
 | .int k n=>some (.int k (.lit n))
 | .bool b=>some (.bool (.lit b))
 | .pointer none=>some .cg
 | .slice none 0 0=>some .bu
 | .nilFunc=>some .jS
 | .nilIface=>some .ov
 | .map none=>some .m9
 | .string ⟨⟨l⟩⟩=>some (.str l)
 | .tuple ⟨[]⟩=>some .undef
 | .agg ⟨l⟩=>(ofValues l).map .agg
 | _=>none
def ofValues:List Value→Option (List SV)
 | []=>some []
 | .agg _::_=>none
 | v::r=>match ofValue v,ofValues r with
  | some x,some xs=>some (x::xs)
  | _,_=>none
end
def jA(look:Nat→Option SV):Operand→Option SV
 | .tmp t=>look t
 | .const v=>ofValue v
 | .global _=>none
 | .func f=>some (.fn f [])
def Ck.rK(b:Nat):Ck→Bool
 | .row b' _ _=>b==b'
 | _=>false
def Ck.lP(v:Nat):Ck→Bool
 | .cr _ v' _ _ _ _=>v==v'
 | _=>false
def findAt(hp:List Ck)(b:Nat):Option (Nat×Ck):=
 match hp.findIdx? (Ck.rK b)with
 | some i=>(hp[i]?).map fun c=>(i,c)
 | none=>none
def ey(hp:List Ck)(v:Nat):Option (Nat×Ck):=
 match hp.findIdx? (Ck.lP v)with
 | some i=>(hp[i]?).map fun c=>(i,c)
 | none=>none
def iC(i n:E):List BE:=
 [wz (.lit 0) i,Gf i n].filter fun b=>b != .lit true
def mkP:E→SV
 | .sA b=> .ptr b 0
 | .lit n=>if n=0 then .cg else .ji (.lit n)
 | e=> .ji e
def eD:E→Option Nat
 | .lit (.ofNat n)=>some n
 | _=>none
def BU(c:bL)(i:E):Option SV:=
 match c.ck with
 | .int k=>if c.w=1 then some (.int k (eu c.a i))else some (.cQ k c.w (kF c.a (ql i (.lit c.w))))
 | .bool=>if c.w=1 then some (.bool (Q0 (eu c.a i)))else none
 | .val v=>if c.w=1 then some (.Dx v i)else none
 | .ptr=>if c.w=1 then some (mkP (eu c.a i))else none
 | .bu=>if c.w=1 then some .bu else none
 | .str=>if c.w=1 then some (mkStr (BS c.a i))else none
 | .cv=>if c.w=1 then some (.Ia (eu c.a i))else none
 | .FP l=>match eD i with
  | some k=>match l[k]? with
   | some n=>if c.w=1 then some (.vv n)else none
   | none=>none
  | none=>none
 | .pt j v=>if c.w=1∧j=i then some (.vv v)else none
def oC(i:E):List bL→Option (List SV)
 | []=>some []
 | c::r=>match BU c i,oC i r with
  | some x,some xs=>some (x::xs)
  | _,_=>none
def bW(ay:List bL):Nat:=(ay.map bL.w).sum
def BX(i:E)(v:SV)(c:bL):Option bL:=
 match c.ck,v with
 | .int k,.int k' e=>if c.w=1∧k=k' then some {c with a:= .m7 c.a i e}else none
 | .int k,.cQ k' n b=>if c.w=n∧k=k' then some {c with a:= .jl c.a (ql i (.lit n)) (.lit n) b}else none
 | .bool,.bool (.lit x)=>if c.w=1 then some {c with a:= .m7 c.a i (.lit (if x then 1 else 0))}else none
 | .bool,.bool (.nz e)=>if c.w=1 then some {c with a:= .m7 c.a i e}else none
 | .ptr,.ptr b o=>if c.w=1∧o=0 then some {c with a:= .m7 c.a i (.sA b)}else none
 | .ptr,.cg=>if c.w=1 then some {c with a:= .m7 c.a i (.lit 0)}else none
 | .ptr,.ji e=>if c.w=1 then some {c with a:= .m7 c.a i e}else none
 | .bu,.bu=>if c.w=1 then some c else none
 | .str,.str l=>if c.w=1 then some {c with a:= .qi c.a i (Aw l)}else none
 | .str,.lD s=>if c.w=1 then some {c with a:= .qi c.a i s}else none
 | .cv,.Ia e=>if c.w=1 then some {c with a:= .m7 c.a i e}else none
 | .cv,.bu=>if c.w=1 then some {c with a:= .m7 c.a i (.lit 0)}else none
 | .pt j _,.vv v=>if c.w=1∧j=i then some {c with ck:= .pt j v}else none
 | _,_=>none
def wB:Nat→E→List SV→Option (List IntKind×E)
 | _,acc,[]=>some ([],acc)
 | o,acc,.int k e::r=>match wB (o+1) (.m7 acc (.lit o) e) r with
  | some (l,a)=>some (k::l,a)
  | none=>none
 | o,acc,.cQ k n b::r=>match wB (o+n) (.jl acc (.lit o) (.lit n) b) r with
  | some (l,a)=>some (List.replicate n k++l,a)
  | none=>none
 | _,_,_=>none
def rowOf(cs:List SV):Option (List IntKind×E):=
 match cs with
 | [.cQ k n a]=>some (List.replicate n k,a)
 | [.int k e]=>some ([k],e)
 | cs=>wB 0 (.lit 0) cs
def align:List bL→List SV→Option (List SV)
 | _,[]=>some []
 | [],v::r=>some (v::r)
 | c::ay,v::r=>
  if v.width=c.w then(align ay r).map (v:: ·)else
  match c.ck,jy 0 c.w (v::r),gg c.w (v::r)with
  | .int k,some x,some rest=>
   match rowOf x with
   | some (kl,a)=>if kl=List.replicate c.w k then(align ay rest).map (.cQ k c.w a:: ·)else none
   | none=>none
  | _,_,_=>none
def oD(i:E):List SV→List bL→Option (List bL)
 | [],ay=>some ay
 | v::r,c::ay=>match BX i v c,oD i r ay with
  | some c',some aN=>some (c'::aN)
  | _,_=>none
 | _::_,[]=>none
def kU(i:E)(vs:List SV)(ay:List bL):Option (List bL):=
 match align ay vs with
 | some FO=>oD i FO ay
 | none=>none
def oE(i:E)(vs:List SV):Nat→List bL→Option (List bL)
 | 0,ay=>kU i vs ay
 | _+1,[]=>none
 | o+1,c::r=>if c.w≤o+1 then(oE i vs (o+1 - c.w) r).map (c:: ·)else none
def Ii(c:Nat)(cs:List SV):Option (List SV×IntKind×Nat×E×List SV):=
 if c≤j8 cs then
  match gg c cs,iT c cs with
  | some (.cQ k n a::r),some pre=>some (pre,k,n,a,r)
  | _,_=>none
 else none
inductive yZ where
 | none
 | new (ck:Ck)
 | set (i:Nat) (ck:Ck)
 | app (i:Nat) (ck:Ck)
 | own (ck:Ck)
 | DM (ck:Ck)
 deriving Repr
structure gY where
 val:SV
 vcs:List BE:=[]
 rd:List Nat:=[]
 gZ:yZ:= .none
 deriving Repr
def vf(o:BinOp)(x y:SV):Option gY:=
 match x,y with
 | .str a,.str b=>
  match o with
  | .add=>if a.length+b.length≤1000000 then some {val:= .str (a++b)}else none
  | .eql=>some {val:= .bool (.lit (a==b))}
  | .neq=>some {val:= .bool (.lit (!(a==b)))}
  | _=>none
 | x,y=>
  match qm x,qm y with
  | some a,some b=>
   match o with
   | .add=>some {val:= .lD (Jz a b),vcs:=I3 (kX a)++I3 (kX b)++[wz (dB (kX a) (kX b)) (.lit 9223372036854775807)]}
   | .eql=>some {val:= .bool (QZ a b)}
   | .neq=>some {val:= .bool (jT (QZ a b))}
   | _=>none
  | _,_=>none
 where I3 (b:E):List BE:=[wz (.lit 0) b].filter fun b=>b != .lit true
def HJ(v:SV)(j:E):Option gY:=
 match v with
 | .str l=>
  match j with
  | .lit (.ofNat i)=>if i<l.length then some {val:= .int .u8 (.lit (l.getD i 0).toNat)}else none
  | j=>some {val:= .int .u8 (eu (.pV (l.map fun b=>((b.toNat:Nat):Int))) j),vcs:=[wz (.lit 0) j,Gf j (.lit l.length)].filter fun b=>b != .lit true}
 | .lD s=>some {val:= .int .u8 (eu (Jw s) j),vcs:=[wz (.lit 0) j,Gf j (kX s)].filter fun b=>b != .lit true}
 | _=>none
def s_(s a b:E):gY:={val:= .lD (A_ s a b),vcs:=leS (.lit 0) a++leS a b++leS b (kX s)}
 where leS (a b:E):List BE:=if a=b then []else [wz a b].filter fun b=>b != .lit true
def zI(v:SV)(lo hi:Option E):Option gY:=
 match v with
 | .str l=>
  match lo.getD (.lit 0),hi.getD (.lit l.length)with
  | .lit (.ofNat a),.lit (.ofNat b)=>if a≤b∧b≤l.length then some {val:= .str ((l.take b).drop a)}else none
  | a,b=>some (s_ (Aw l) a b)
 | .lD s=>some (s_ s (lo.getD (.lit 0)) (hi.getD (kX s)))
 | _=>none
structure ct where
 b:Nat:=0
 v:Nat:=0
 i:Nat:=0
 a:Nat:=0
 bo:Nat:=0
 p:Nat:=0
 r:Nat:=0
 deriving Repr,DecidableEq
def DO(b:Nat)(i:E)(s c:Nat):SV:=
 match eD i with
 | some n=> .ptr b (n*s+c)
 | none=> .pX b i s c
def ek(a b:E):List BE:=if a=b then []else [wz a b].filter fun b=>b != .lit true
def tJ:Nat→E→List SV→Option E
 | _,acc,[]=>some acc
 | o,acc,.str l::r=>tJ (o+1) (.qi acc (.lit o) (Aw l)) r
 | o,acc,.lD s::r=>tJ (o+1) (.qi acc (.lit o) s) r
 | _,_,_=>none
def My(cs:List SV):Option E:=tJ 0 (.lit 0) cs
def xO(hp:List Ck)(agg:Bool)(size:Nat):SV→Option gY
 | .ptr b c=>
  match findAt hp b with
  | some (j,.row _ _ cs)=>
   match jy c size cs with
   | some x=>(iU agg x).map fun v=>{val:=v,rd:=[j]}
   | none=>none
  | _=>none
 | .pX b i s c=>
  match findAt hp b with
  | some (j,.row _ _ cs)=>
   if s=1∧size=1∧agg=false then
    match Ii c cs with
    | some (_,k,n,a,_)=>some {val:= .int k (eu a i),vcs:=iC i (.lit n),rd:=[j]}
    | none=>if c=0 then match My cs with
     | some a=>some {val:=mkStr (BS a i),vcs:=iC i (.lit cs.length),rd:=[j]}
     | none=>none
     else none
   else none
  | _=>none
 | .pv v i s c=>
  match ey hp v with
  | some (j,.cr _ _ _ s' n ay)=>
   if s=s'∧s=bW ay then
    if s<size then
     match ay with
     | [⟨.int k,1,a⟩]=>if c=0∧agg=true then some {val:= .agg [.cQ k size (kF a i)],vcs:=ek (.lit 0) i++ek (dB i (.lit size)) n,rd:=[j]}else none
     | _=>none
    else
    match oC i ay with
    | some es=>match jy c size es with
     | some y=>(iU agg y).map fun x=>{val:=x,vcs:=iC i n,rd:=[j]}
     | none=>none
    | none=>none
   else none
  | _=>none
 | _=>none
def yE(hp:List Ck)(size:Nat)(v:SV):SV→Option gY
 | .ptr b c=>
  match findAt hp b,eM v with
  | some (j,.row b' true cs),some vs=>
   if j8 vs=size then
    (uZ c vs cs).map fun tI=>{val:= .undef,rd:=[j],gZ:= .set j (.row b' true tI)}
   else none
  | _,_=>none
 | .pX b i s c=>
  match findAt hp b,eM v with
  | some (j,.row b' true cs),some [.int k e]=>
   if s=1∧size=1 then
    match Ii c cs with
    | some (pre,k',n,a,post)=>if k=k' then some {val:= .undef,vcs:=iC i (.lit n),rd:=[j],gZ:= .set j (.row b' true (pre++ .cQ k n (.m7 a i e)::post))}else none
    | none=>none
   else none
  | _,_=>none
 | .pv x i s c=>
  match ey hp x,eM v with
  | some (j,.cr true x' t s' n ay),some vs=>
   if s=s'∧s=bW ay∧0<size∧j8 vs=size then
    (oE i vs c ay).map fun aN=>{val:= .undef,vcs:=iC i n,rd:=[j],gZ:= .set j (.cr true x' t s' n aN)}
   else none
  | _,_=>none
 | _=>none
def lT:List SV→List SV→Option BE
 | [],[]=>some (.lit true)
 | .int k a::r,.int k' b::r'=>if k=k' then(lT r r').map (Ax (Ql a b))else none
 | .bool a::r,.bool b::r'=>(lT r r').map (Ax (DC a b (jT b)))
 | .cQ k n a::r,.cQ k' n' b::r'=>if k=k'∧n=n' then(lT r r').map (Ax (if a=b then .lit true else .TC n a b))else none
 | _,_=>none
def gK:List SV→List SV
 | []=>[]
 | .cQ k n a::r=>((List.range n).map fun j:Nat=>SV.int k (eu a (.lit j)))++gK r
 | v::r=>v::gK r
def yI(a b:List SV):Option BE:=
 match lT a b with
 | some c=>some c
 | none=>lT (gK a) (gK b)
def ptrEq(k:TK)(x y:SV):Option BE:=
 match k,x,y with
 | .ptr _,.cg,.cg=>some (.lit true)
 | .ptr _,.cg,.ptr .. =>some (.lit false)
 | .ptr _,.ptr ..,.cg=>some (.lit false)
 | .ptr _,.cg,.pX .. =>some (.lit false)
 | .ptr _,.pX ..,.cg=>some (.lit false)
 | .ptr _,.cg,.ji e=>some (Ql e (.lit 0))
 | .ptr _,.ji e,.cg=>some (Ql e (.lit 0))
 | .slice _,.bu,.bu=>some (.lit true)
 | .slice _,.bu,.sl .. =>some (.lit false)
 | .slice _,.sl ..,.bu=>some (.lit false)
 | .func,.jS,.jS=>some (.lit true)
 | .func,.jS,.fn .. =>some (.lit false)
 | .func,.fn ..,.jS=>some (.lit false)
 | .func,.fm ..,.jS=>some (.lit false)
 | _,_,_=>none
def IntKind.lo:IntKind→Int
 | .i8=> -128 | .i16=> -32768 | .i32=> -2147483648 | .i64=> -9223372036854775808 | _=>0
def IntKind.hi:IntKind→Int
 | .i8=>127 | .i16=>32767 | .i32=>2147483647 | .i64=>9223372036854775807
 | .u8=>255 | .u16=>65535 | .u32=>4294967295 | .u64=>18446744073709551615
def uL:IntKind→Bool
 | .i8 | .i16 | .i32 | .i64=>true
 | _=>false
def yG(k:IntKind)(e:E):E×List BE:=
 match e with
 | .lit n=>(.lit (k.wrap n),[])
 | _=>if uL k then(e,[.le (.lit (IntKind.lo k)) e,.le e (.lit (IntKind.hi k))])else(.wrap k e,[])
def yH(k:IntKind)(e:E):E×List BE:=
 match e with
 | .wrap .u64 (.bin .sub .i64 (.lit 0) _)=>if uL k then(.wrap k e,[])else yG k e
 | _=>yG k e
def o6(b:E):List BE:=[wz (.lit 0) b].filter fun b=>b != .lit true
def nS(ti:TI)(o:BinOp)(x y:SV):Option gY:=
 match x,y with
 | .int k a,.int k' b=>
  match o with
  | .shl=>some {val:= .int k (sG .shl k a b),vcs:=o6 b}
  | .shr=>some {val:= .int k (sG .shr k a b),vcs:=o6 b}
  | _=>
  if k≠k' then none else
  match o with
  | .add=>let (e,vc):=yG k (dB a b);some {val:= .int k e,vcs:=vc}
  | .sub=>let (e,vc):=yG k (sC a b);some {val:= .int k e,vcs:=vc}
  | .mul=>let (e,vc):=yG k (ql a b);some {val:= .int k e,vcs:=vc}
  | .quo=>some {val:= .int k (Mt k (sG .quo k a b)),vcs:=[Q0 b]}
  | .rem=>some {val:= .int k (sG .rem k a b),vcs:=[Q0 b]}
  | .and=>some {val:= .int k (sG .fJ k a b)}
  | .or=>some {val:= .int k (sG .cz k a b)}
  | .xor=>some {val:= .int k (sG .cy k a b)}
  | .andNot=>some {val:= .int k (sG .QT k a b)}
  | .eql=>some {val:= .bool (Ql a b)}
  | .neq=>some {val:= .bool (jT (Ql a b))}
  | .lss=>some {val:= .bool (Gf a b)}
  | .leq=>some {val:= .bool (wz a b)}
  | .gtr=>some {val:= .bool (Gf b a)}
  | .geq=>some {val:= .bool (wz b a)}
  | _=>none
 | .bool a,.bool b=>
  if ti.k≠ .bool then none else
  match o with
  | .eql=>some {val:= .bool (DC a b (jT b))}
  | .neq=>some {val:= .bool (jT (DC a b (jT b)))}
  | _=>none
 | .agg a,.agg b=>
  if !ti.k.agg||ti.lay.isEmpty|| !(qv a (kZ ti.lay))|| !(qv b (kZ ti.lay))then none else
  match o,yI a b with
  | .eql,some c=>some {val:= .bool c}
  | .neq,some c=>some {val:= .bool (jT c)}
  | _,_=>none
 | a,b=>
  if ti.k= .str then vf o a b else
  match o,ptrEq ti.k a b with
  | .eql,some c=>some {val:= .bool c}
  | .neq,some c=>some {val:= .bool (jT c)}
  | _,_=>none
def kV(place:Nat→Option (Nat×Nat))(cells:List SV):List (Nat×List SV)→Option (List SV)
 | []=>some cells
 | (i,cs)::r=>
  match place i with
  | some (off,size)=>
   if j8 cs=size then
    match uZ off cs cells with
    | some Xx=>kV place Xx r
    | none=>none
   else none
  | none=>none
def iL(T:List TI)(fs:List (Nat×Nat))(i:Nat):Option (Nat×Nat):=
 match fs[i]? with
 | some (t,off)=>(aP T t).map fun ti=>(off,ti.size)
 | none=>none
def kJ(size:Nat)(i:Nat):Option (Nat×Nat):=some (i*size,size)
def qx(T:List TI)(fs:List (Nat×Nat)):Bool:=fs.all fun f=>(aP T f.1).isSome
def partsOf(look:Nat→Option SV):List (Nat×Operand)→Option (List (Nat×List SV))
 | []=>some []
 | (i,x)::r=>
  match jA look x,partsOf look r with
  | some v,some rest=>(eM v).map fun cs=>(i,cs)::rest
  | _,_=>none
def jB:List (Option SV)→Option (List SV)
 | []=>some []
 | some v::r=>(jB r).map (v:: ·)
 | none::_=>none
def CU(c:BE)(a b:SV):Option SV:=
 match c with
 | .lit true=>some a
 | .lit false=>some b
 | c=>
  match a,b with
  | .bool x,.bool y=>some (.bool (DC c x y))
  | .bool x,.opt g (.bool y)=>if g=jT c then some (.bool (DC c x y))else none
  | .opt g (.bool x),.bool y=>if g=c then some (.bool (DC c x y))else none
  | _,_=>none
structure Part where
 lo:E
 len:E
 mx:Option E
 deriving Repr
def ns(n:E)(p:Part)(c:Cut):Part×List BE:=
 (⟨dB p.lo c.lo,sC c.hi c.lo,match c.mx with | some m=>some (dB p.lo m) | none=>p.mx⟩,
  ek (.lit 0) c.lo++ek c.lo c.hi++
  match c.mx,p.mx with
  | none,none=>ek (dB p.lo c.hi) n
  | none,some m0=>ek (dB p.lo c.hi) m0
  | some m,none=>ek c.hi m++ek (dB p.lo m) n
  | some m,some m0=>ek c.hi m++ek (dB p.lo m) m0)
def sL(n:E):List Cut→Part→Part×List BE
 | [],p=>(p,[])
 | c::r,p=>((sL n r (ns n p c).1).1,(ns n p c).2++(sL n r (ns n p c).1).2)
structure Rt where
 j:Nat
 md:Bool
 v:Nat
 t:Nat
 s:Nat
 n:E
 ay:List bL
 p:Part
 vcs:List BE
def gL(hp:List Ck):SV→Option Rt
 | .vv v=>match ey hp v with
  | some (j,.cr md _ t s n ay)=>some ⟨j,md,v,t,s,n,ay,⟨.lit 0,n,none⟩,[]⟩
  | _=>none
 | .jo v cs s'=>match ey hp v with
  | some (j,.cr md _ t s n ay)=>if s=s' then some ⟨j,md,v,t,s,n,ay,(sL n cs ⟨.lit 0,n,none⟩).1,(sL n cs ⟨.lit 0,n,none⟩).2⟩else none
  | _=>none
 | _=>none
def Ck.isMap(b:Nat):Ck→Bool
 | .map b' .. =>b==b'
 | .tM b' .. =>b==b'
 | _=>false
def mg(hp:List Ck)(b:Nat):Option (Nat×Ck):=
 match hp.findIdx? (Ck.isMap b)with
 | some i=>(hp[i]?).map fun c=>(i,c)
 | none=>none
def HK(hp:List Ck)(k:TK)(v:SV):Option gY:=
 match k with
 | .map _ _=>
  match v with
  | .mp b=>
   match mg hp b with
   | some (j,.map _ _ _ _ _ has _)=>some {val:= .int .i64 (eu has (.lit 0)),rd:=[j]}
   | _=>none
  | .m9=>some {val:= .int .i64 (.lit 0)}
  | _=>none
 | .slice _=>
  match v with
  | .sl _ _ _ n _=>some {val:= .int .i64 n,vcs:=o6 n}
  | .bu=>some {val:= .int .i64 (.lit 0)}
  | .vv v=>
   match ey hp v with
   | some (j,.cr _ _ _ _ n _)=>some {val:= .int .i64 n,vcs:=o6 n,rd:=[j]}
   | _=>none
  | .jo v cs s=>
   match gL hp (.jo v cs s)with
   | some r=>some {val:= .int .i64 r.p.len,vcs:=r.vcs++ek (.lit 0) r.p.len,rd:=[r.j]}
   | none=>none
  | _=>none
 | .str=>
  match v with
  | .str l=>some {val:= .int .i64 (.lit l.length)}
  | .lD s=>some {val:= .int .i64 (kX s),vcs:=o6 (kX s)}
  | _=>none
 | _=>none
mutual
def vU(T:List TI):Nat→Nat→Option (List bL)
 | 0,_=>none
 | d+1,t=>
  match aP T t with
  | some {k:= .int k,.. }=>some [⟨.int k,1,.lit 0⟩]
  | some {k:= .bool,.. }=>some [⟨.bool,1,.lit 0⟩]
  | some {k:= .ptr _,.. }=>some [⟨.ptr,1,.lit 0⟩]
  | some {k:= .slice _,.. }=>some [⟨.bu,1,.lit 0⟩]
  | some {k:= .str,.. }=>some [⟨.str,1,.lit 0⟩]
  | some {k:= .arr n e,.. }=>match aP T e with
   | some {k:= .int k,.. }=>some [⟨.int k,n,.lit 0⟩]
   | _=>none
  | some {k:= .struct fs,.. }=>I4 T d fs
  | _=>none
def I4(T:List TI):Nat→List (Nat×Nat)→Option (List bL)
 | 0,_=>none
 | _+1,[]=>some []
 | d+1,(t,_)::r=>match vU T d t,I4 T d r with
  | some a,some b=>some (a++b)
  | _,_=>none
end
def vV(T:List TI)(hp:List Ck)(nv:Nat)(k:TK)(x y:SV):Option gY:=
 match x,y with
 | .vv v,.sl b i s m _=>
  match ey hp v,findAt hp b with
  | some (j,.cr true _ t s' n ay),some (j',.row _ _ cs)=>
   match kU n cs ay,aP T t with
   | some aN,some te=>
    if i= .lit 0∧m= .lit 1∧k= .slice t∧s=s'∧s=bW ay∧j8 cs=s∧0<s∧cs.all SV.one=true∧te.size=s then
     some {val:= .vv nv,vcs:=o6 n++[.le (.bin .mul .i64 (.bin .add .i64 n (.lit 1)) (.lit (max 1 te.bytes:Nat))) (.lit 140737488355328)],rd:=[j,j'],gZ:= .app j (.cr true nv t s (dB n (.lit 1)) aN)}
    else none
   | _,_=>none
  | _,_=>none
 | .bu,.sl b i s m _=>
  match findAt hp b,k with
  | some (j',.row _ _ cs),.slice t=>
   match aP T t,vU T 30 t with
   | some te,some ay=>
    match kU (.lit 0) cs ay with
    | some aN=>
     if i= .lit 0∧m= .lit 1∧s=bW ay∧j8 cs=s∧0<s∧cs.all SV.one=true∧te.size=s∧te.bytes≤140737488355328 then
      some {val:= .vv nv,rd:=[j'],gZ:= .own (.cr true nv t s (.lit 1) aN)}
     else none
    | none=>none
   | _,_=>none
  | _,_=>none
 | _,_=>none
def yO(x:SV)(c:Cut)(s:Nat):Option SV:=
 match x with
 | .vv v=>some (.jo v [c] s)
 | .jo v cs s'=>if s=s' then some (.jo v (cs++[c]) s)else none
 | _=>none
def yQ(T:List TI)(hp:List Ck)(k:TK)(x:SV)(lo hi mx:Option E):Option gY:=
 if mx.isSome&&hi.isNone then none else
 match k,x with
 | .slice e,.sl b i s n m=>
  match aP T e with
  | some te=>
   if te.size=s then
    let l:=lo.getD (.lit 0)
    let h:=hi.getD n
    let mm:=mx.getD m
    some {val:= .sl b (dB i l) s (sC h l) (sC mm l),vcs:=ek (.lit 0) i++ek (.lit 0) l++ek l h++ek h mm++ek mm m++ek (.lit 0) n++(if l= .lit 0 then []else [Gf l mm].filter fun b=>b != .lit true)}
   else none
  | none=>none
 | .slice e,.bu=>
  match aP T e with
  | some _=>if lo.getD (.lit 0)= .lit 0∧hi.getD (.lit 0)= .lit 0∧mx.getD (.lit 0)= .lit 0 then some {val:= .bu}else none
  | none=>none
 | .slice e,x=>
  match aP T e,gL hp x with
  | some te,some r=>
   if te.size=r.s then
    let c:Cut:=⟨lo.getD (.lit 0),hi.getD r.p.len,mx⟩
    match yO x c r.s with
    | some v=>some {val:=v,vcs:=r.vcs++(ns r.n r.p c).2,rd:=[r.j]}
    | none=>none
   else none
  | _,_=>none
 | .arr n e,.pv v i s c=>
  match aP T e,ey hp v,lo,hi,mx with
  | some _,some (j,.cr _ _ _ _ m _),none,none,none=>some {val:= .Ml v i s c n,vcs:=iC i m,rd:=[j]}
  | _,_,_,_,_=>none
 | .arr n e,.ptr b c=>
  match aP T e with
  | some te=>
   if te.size≠0∧c%te.size=0 then
    let l:=lo.getD (.lit 0)
    let h:=hi.getD (.lit n)
    let mm:=mx.getD (.lit n)
    some {val:= .sl b (dB (.lit (c/te.size:Nat)) l) te.size (sC h l) (sC mm l),vcs:=ek (.lit 0) l++ek l h++ek h mm++ek mm (.lit n)++(if l= .lit 0 then []else [Gf l mm].filter fun b=>b != .lit true)}
   else none
  | none=>none
 | _,_=>none
def DT(lo:E)(c:bL):Option bL:=
 match c.ck with
 | .val _=>if lo= .lit 0 then some c else none
 | .FP _=>if lo= .lit 0 then some c else none
 | .pt _ _=>if lo= .lit 0 then some c else none
 | .str=>if lo= .lit 0 then some c else none
 | _=>some {c with a:=kF c.a (ql lo (.lit c.w))}
def iY(lo:E):List bL→Option (List bL)
 | []=>some []
 | c::r=>match DT lo c,iY lo r with
  | some a,some b=>some (a::b)
  | _,_=>none
def Gt(at_ m:E)(d s:bL):Option bL:=
 if d.w≠s.w then none else
 match d.ck,s.ck with
 | .int k,.int k'=>if k=k' then some {d with a:= .jl d.a (ql at_ (.lit d.w)) (ql m (.lit d.w)) s.a}else none
 | .bool,.bool=>some {d with a:= .jl d.a (ql at_ (.lit d.w)) (ql m (.lit d.w)) s.a}
 | .ptr,.ptr=>some {d with a:= .jl d.a (ql at_ (.lit d.w)) (ql m (.lit d.w)) s.a}
 | .bu,.bu=>some d
 | .str,.str=>if m= .lit 1∧d.w=1 then some {d with a:= .qi d.a at_ (BS s.a (.lit 0))}else if m= .lit 0 then some d else none
 | _,_=>none
def iD(at_ m:E):List bL→List bL→Option (List bL)
 | [],[]=>some []
 | d::r,s::r'=>match Gt at_ m d s,iD at_ m r r' with
  | some a,some b=>some (a::b)
  | _,_=>none
 | _,_=>none
structure Src where
 rd:List Nat
 vcs:List BE
 n:E
 ay:List bL
def tT(s:Nat):Nat→Nat→List SV→List bL→Option (List bL)
 | 0,_,_,ay=>some ay
 | k+1,i,cs,ay=>
  match jy 0 s cs,gg s cs with
  | some a,some b=>match kU (.lit i) a ay with
   | some aN=>tT s k (i+1) b aN
   | none=>none
  | _,_=>none
def Bd(T:List TI)(hp:List Ck)(te:TI)(y:SV):Option Src:=
 match y with
 | .bu=>match vU T 30 te.t with
  | some ay=>if te.size=bW ay then some ⟨[],[],.lit 0,ay⟩else none
  | none=>none
 | .sl b i s m _=>
  match findAt hp b with
  | some (j,.row _ _ cs)=>
   if s≠te.size then none else
   match eD i,eD m with
   | some i0,some m0=>
    match jy (i0*s) (m0*s) cs with
    | some [.cQ k N a]=>if s=1∧N=m0 then some ⟨[j],[],.lit m0,[⟨.int k,1,a⟩]⟩else none
    | some x=>
     if x.all SV.one then
      match vU T 30 te.t with
      | some ay=>if s=bW ay then(tT s m0 0 x ay).map fun aN=>⟨[j],[],.lit m0,aN⟩else none
      | none=>none
     else none
    | none=>none
   | _,_=>
    match cs with
    | [.cQ k N a]=>if s=1 then some ⟨[j],ek (.lit 0) i++ek (.lit 0) m++ek (dB i m) (.lit N),m,[⟨.int k,1,kF a i⟩]⟩else none
    | _=>none
  | _=>none
 | x=>
  match gL hp x with
  | some r=>
   if r.s=te.size∧r.s=bW r.ay then
    (iY r.p.lo r.ay).map fun ay=>⟨[r.j],r.vcs++ek (.lit 0) r.p.len,r.p.len,ay⟩
   else none
  | none=>none
def pE(n:E)(bytes:Nat):BE:=wz (ql n (.lit (max 1 bytes:Nat))) (.lit 140737488355328)
def PU(y:SV)(v:Nat):Bool:=
 match y with
 | .vv v'=>v'==v
 | .jo v' _ _=>v'==v
 | _=>false
def Tb:SV→Bool
 | .jo _ [⟨_,hi,some m⟩] _=>hi==m
 | _=>false
def tb(T:List TI)(hp:List Ck)(nv:Nat)(k:TK)(x y:SV):Option gY:=
 match k with
 | .slice t=>
  match aP T t with
  | some te=>
   match Bd T hp te y with
   | some sc=>
    if te.size=0 then none else
    match x with
    | .bu=>some {val:= .vv nv,vcs:=sc.vcs++ek (.lit 0) sc.n++[pE sc.n te.bytes],rd:=sc.rd,gZ:= .own (.cr true nv t te.size sc.n sc.ay)}
    | .sl b i s n m=>
     match Bd T hp te (.sl b i s n m),eD sc.n with
     | some x,some (_+1)=>
      if x.n=n∧n=m∧s=te.size then
       (iD n sc.n x.ay sc.ay).map fun aN=>{val:= .vv nv,vcs:=x.vcs++sc.vcs++ek (.lit 0) n++[pE (dB n sc.n) te.bytes],rd:=x.rd++sc.rd,gZ:= .own (.cr true nv t te.size (dB n sc.n) aN)}
      else none
     | _,_=>none
    | x=>
     match gL hp x with
     | some r=>
      if r.t=t∧r.s=te.size∧r.s=bW r.ay∧r.md=true then
       if PU y r.v&& !Tb x then
        match x,iD (dB r.p.lo r.p.len) sc.n r.ay sc.ay with
        | .jo v [⟨lo,hi,none⟩] s,some aN=>
         some {val:= .jo v [⟨lo,dB hi sc.n,none⟩] s,vcs:=r.vcs++sc.vcs++ek (.lit 0) sc.n++ek (dB hi sc.n) r.n,rd:=r.j::sc.rd,gZ:= .set r.j (.cr true r.v t r.s r.n aN)}
        | _,_=>none
       else
        match iY r.p.lo r.ay with
        | some rc=>
         match (if r.p.len= .lit 0 then some sc.ay else iD r.p.len sc.n rc sc.ay)with
         | some aN=>
          some {val:= .vv nv,vcs:=r.vcs++sc.vcs++ek (.lit 0) r.p.len++ek (.lit 0) sc.n++[pE (dB r.p.len sc.n) te.bytes],rd:=r.j::sc.rd,gZ:= .app r.j (.cr true nv t r.s (dB r.p.len sc.n) aN)}
         | none=>none
        | none=>none
      else none
     | none=>none
   | none=>none
  | none=>none
 | _=>none
def kf:List SV→List bL→Bool
 | [],[]=>true
 | .int k (.lit 0)::r,⟨.int k',w,.lit 0⟩::ay=>k==k'&&w==1&&kf r ay
 | .bool (.lit false)::r,⟨.bool,w,.lit 0⟩::ay=>w==1&&kf r ay
 | .cQ k n (.lit 0)::r,⟨.int k',w,.lit 0⟩::ay=>k==k'&&w==n&&kf r ay
 | .cg::r,⟨.ptr,w,.lit 0⟩::ay=>w==1&&kf r ay
 | .bu::r,⟨.bu,w,_⟩::ay=>w==1&&kf r ay
 | .str []::r,⟨.str,w,.lit 0⟩::ay=>w==1&&kf r ay
 | _,_=>false
def iO(T:List TI)(te:TI):Option (List bL):=
 match vU T 30 te.t with
 | some ay=>if kf te.zero ay&&bW ay==te.size&& !(te.size==0)then some ay else none
 | none=>none
def zJ(T:List TI)(hp:List Ck)(k:TK)(x:SV):Option gY:=
 match k,x with
 | .slice _,.bu=>some {val:= .undef}
 | .slice e,x=>
  match aP T e,gL hp x with
  | some te,some r=>
   match iO T te with
   | some z=>
    if r.s=te.size∧r.s=bW r.ay∧r.md=true then
     (iD r.p.lo r.p.len r.ay z).map fun aN=>{val:= .undef,vcs:=r.vcs++ek (.lit 0) r.p.len,rd:=[r.j],gZ:= .set r.j (.cr true r.v r.t r.s r.n aN)}
    else none
   | none=>none
  | _,_=>none
 | _,_=>none
def pF:E→E→E
 | .lit a,.lit b=> .lit (min a b)
 | a,b=>if a=b then a else .bin .ib .i64 a b
def CV(T:List TI)(hp:List Ck)(k:TK)(x y:SV):Option gY:=
 match k with
 | .slice t=>
  match aP T t with
  | some te=>
   match Bd T hp te y with
   | some sc=>
    match x with
    | .sl b i s n _=>
     match findAt hp b with
     | some (j,.row b' true cs)=>
      if s≠te.size∨s=0 then none else
      match cs with
      | [.cQ k N a]=>
       match sc.ay with
       | [⟨.int k',1,a'⟩]=>
        if s=1∧k=k' then
         some {val:= .int .i64 (pF sc.n n),vcs:=sc.vcs++ek (.lit 0) sc.n++ek (.lit 0) i++ek (.lit 0) n++ek (dB i n) (.lit N),rd:=j::sc.rd,gZ:= .set j (.row b' true [.cQ k N (.jl a i (pF sc.n n) a')])}
        else none
       | _=>none
      | _=>
       match eD i,eD n,eD sc.n,sc.ay with
       | some i0,some n0,some m0,[⟨.int k',1,a'⟩]=>
        if s=1 then
         (uZ i0 [.cQ k' (min m0 n0) a'] cs).map fun tI=>{val:= .int .i64 (.lit (min m0 n0:Nat)),vcs:=sc.vcs,rd:=j::sc.rd,gZ:= .set j (.row b' true tI)}
        else none
       | some i0,some n0,none,[⟨.int k',1,a'⟩]=>
        match jy i0 n0 cs with
        | some [.cQ k2 N2 a]=>
         if s=1∧k2=k'∧N2=n0 then
          (uZ i0 [.cQ k' n0 (.jl a (.lit 0) (pF sc.n (.lit n0)) a')] cs).map fun tI=>{val:= .int .i64 (pF sc.n (.lit n0)),vcs:=sc.vcs++ek (.lit 0) sc.n,rd:=j::sc.rd,gZ:= .set j (.row b' true tI)}
         else none
        | _=>none
       | _,_,_,_=>none
     | _=>none
    | x=>
     match gL hp x with
     | some r=>
      if r.t=t∧r.s=te.size∧r.s=bW r.ay∧r.md=true∧0<r.s then
       (iD r.p.lo (pF sc.n r.p.len) r.ay sc.ay).map fun aN=>
        {val:= .int .i64 (pF sc.n r.p.len),vcs:=r.vcs++sc.vcs++ek (.lit 0) r.p.len++ek (.lit 0) sc.n,rd:=r.j::sc.rd,gZ:= .set r.j (.cr true r.v t r.s r.n aN)}
      else none
     | none=>none
   | none=>none
  | none=>none
 | _=>none
def CW(T:List TI)(nv:Nat)(k:TK)(n c:E):Option gY:=
 match k with
 | .slice t=>
  match aP T t with
  | some te=>
   match iO T te with
   | some z=>some {val:= .vv nv,vcs:=ek (.lit 0) n++ek n c++[pE c te.bytes],gZ:= .own (.cr true nv t te.size n z)}
   | none=>none
  | none=>none
 | _=>none
def B5(T:List TI)(hp:List Ck)(nv:Nat)(k:TK)(x:SV)(m:E):Option gY:=
 match k,x with
 | .slice t,.vv v=>
  match aP T t,ey hp v with
  | some te,some (j,.cr true _ t' s n ay)=>
   match iO T te with
   | some z=>
    match iD n m ay z with
    | some aN=>
     if t'=t∧s=te.size∧s=bW ay then
      some {val:= .vv nv,vcs:=ek (.lit 0) n++ek (.lit 0) m++[pE (dB n m) te.bytes],rd:=[j],gZ:= .app j (.cr true nv t s (dB n m) aN)}
     else none
    | none=>none
   | none=>none
  | _,_=>none
 | .slice t,.bu=>
  match aP T t with
  | some te=>
   match iO T te with
   | some z=>
    if te.size=bW z then
     some {val:= .vv nv,vcs:=ek (.lit 0) m++[pE m te.bytes],gZ:= .own (.cr true nv t te.size m z)}
    else none
   | none=>none
  | none=>none
 | _,_=>none
def vm(T:List TI)(hp:List Ck)(nv:Nat)(k:TK)(x y:SV):Option gY:=
 match k,x with
 | .slice t,.sl b i s n m=>
  match aP T t,findAt hp b,eD i,eD n with
  | some te,some (j,.row _ true cs),some 0,some q=>
   match rowOf cs,Bd T hp te y with
   | some (ki::kl,a),some sc=>
    if n=m∧s=1∧te.size=1∧kl.length+1=q∧ki::kl=List.replicate q ki then
     (iD (.lit q) sc.n [⟨.int ki,1,a⟩] sc.ay).map fun aN=>
      {val:= .vv nv,vcs:=sc.vcs++ek (.lit 0) sc.n++[pE (dB (.lit q) sc.n) te.bytes],rd:=j::sc.rd,gZ:= .app j (.cr true nv t 1 (dB (.lit q) sc.n) aN)}
    else none
   | _,_=>none
  | _,_,_,_=>none
 | _,_=>none
def xS:List SV→Option (List Nat)
 | []=>some []
 | .vv i::r=>(xS r).map (i:: ·)
 | _=>none
def tW(hp:List Ck):SV→Option (Nat×List Nat)
 | .sl b i _ n _=>
  match findAt hp b,eD i,eD n with
  | some (j,.row _ _ cs),some 0,some q=>
   match xS cs with
   | some l=>if l.length=q then some (j,l)else none
   | none=>none
  | _,_,_=>none
 | _=>none
def vn(T:List TI)(hp:List Ck)(nv:Nat)(k:TK)(x y:SV):Option gY:=
 match k,x with
 | .slice t,.sl b i s n m=>
  match aP T t,tW hp (.sl b i s n m),tW hp y with
  | some te,some (j,l),some (j',l')=>
   if n=m∧te.size=1∧l'.length≠0∧(l.length+l'.length)*te.bytes≤140737488355328∧l.length+l'.length≤140737488355328 then
    some {val:= .vv nv,rd:=[j,j'],gZ:= .own (.cr true nv t 1 (.lit (l.length+l'.length:Nat)) [⟨.FP (l++l'),1,.lit 0⟩])}
   else none
  | _,_,_=>none
 | _,_=>none
def vW(T:List TI)(hp:List Ck)(nv:Nat)(tt:TI)(ts Yw:Nat)(x y:SV):Option gY:=
 if ts=Yw then(match vV T hp nv tt.k x y with | some r=>some r | none=>match tb T hp nv tt.k x y with | some r=>some r | none=>match vm T hp nv tt.k x y with | some r=>some r | none=>vn T hp nv tt.k x y)else(match aP T Yw,y with
    | some ti,.int _ m=>match ti.k with
     | .int _=>B5 T hp nv tt.k x m
     | _=>none
    | _,_=>none)
def PV(a:E)(i:Nat):Option Int:=
 match eu a (.lit i)with
 | .lit n=>some n
 | _=>none
def vX(a:E):Nat→Option (List Int)
 | 0=>some []
 | n+1=>match vX a n,PV a n with
  | some l,some x=>some (l++[x])
  | _,_=>none
def I5(n:Nat)(a:E):E:=
 match vX a n with
 | some l=> .lit (aS l:Nat)
 | none=> .kc n a
def tc:List iB→Option (List IntKind)
 | []=>some []
 | some k::r=>(tc r).map (k:: ·)
 | none::_=>none
def oR(ti:TI):Option (List IntKind×Bool):=
 match ti.k with
 | .int k=>some ([k],false)
 | .struct _=>if ti.lay.isEmpty then none else(tc (kZ ti.lay)).map fun l=>(l,true)
 | .arr .. =>if ti.lay.isEmpty then none else(tc (kZ ti.lay)).map fun l=>(l,true)
 | _=>none
def qS(ka:Bool)(k:SV):Option (List SV):=
 match ka,k with
 | true,.agg cs=>some cs
 | false,.int q e=>some [.int q e]
 | _,_=>none
def vY(T:List TI)(te:TI):Option (List bL):=
 if te.size=0 then(if te.zero.isEmpty&&te.k.agg then some []else none)else iO T te
def ez:List SV→List SV→Bool
 | [],[]=>true
 | .int k (.lit n)::r,.int k' (.lit m)::s=>k==k'&&n==m&&ez r s
 | .bool (.lit a)::r,.bool (.lit b)::s=>a==b&&ez r s
 | .cQ k n (.lit a)::r,.cQ k' n' (.lit b)::s=>k==k'&&n==n'&&a==b&&ez r s
 | .cg::r,.cg::s=>ez r s
 | .bu::r,.bu::s=>ez r s
 | .jS::r,.jS::s=>ez r s
 | .ov::r,.ov::s=>ez r s
 | .m9::r,.m9::s=>ez r s
 | .str l::r,.str l'::s=>l==l'&&ez r s
 | _,_=>false
def TK.isSlice:TK→Bool
 | .slice _=>true
 | _=>false
def tf(T:List TI)(nb t:Nat):Option gY:=
 match aP T t with
 | some {k:= .map kt vt,.. }=>
  match aP T kt,aP T vt with
  | some tk,some tv=>
   match oR tk,(if tv.k.isSlice then none else vY T tv)with
   | some (kl,ka),some ay=>some {val:= .mp nb,gZ:= .new (.map nb kl ka tv.k.agg tv.zero (.lit 0) ay)}
   | some (kl,ka),none=>some {val:= .mp nb,gZ:= .new (.tM nb kl ka tv.k.agg tv.zero [])}
   | _,_=>none
  | _,_=>none
 | _=>none
def vZ(T:List TI)(hp:List Ck)(t:Nat)(x k:SV)(comma:Bool):Option gY:=
 match aP T t with
 | some {k:= .map kt vt,.. }=>
  match aP T kt,aP T vt with
  | some tk,some tv=>
   match oR tk with
   | some (kl,ka)=>
    match qS ka k with
    | some kc=>
     match rowOf kc with
     | some (HL,a)=>
      if HL≠kl then none else
      match x with
      | .m9=>(iU tv.k.agg tv.zero).map fun v=>{val:=if comma then .nO [v,.bool (.lit false)]else v}
      | .mp b=>
       match mg hp b with
       | some (j,.map _ mh xI yd BI has ay)=>
        if mh=kl∧xI=ka∧yd=tv.k.agg∧ez BI tv.zero=true then
         match oC (I5 kl.length a) ay with
         | some es=>(iU tv.k.agg es).map fun v=>{val:=if comma then .nO [v,.bool (Q0 (eu has (I5 kl.length a)))]else v,rd:=[j]}
         | none=>none
        else none
       | some (j,.tM _ mh xI yd BI es)=>
        if mh=kl∧xI=ka∧yd=tv.k.agg∧ez BI tv.zero=true then
         match I5 kl.length a with
         | .lit n=>(iU tv.k.agg (jU es BI n.toNat)).map fun v=>{val:=if comma then .nO [v,.bool (.lit (qw es n.toNat))]else v,rd:=[j]}
         | _=>none
        else none
       | _=>none
      | _=>none
     | none=>none
    | none=>none
   | none=>none
  | _,_=>none
 | _=>none
def zK:SV→Bool
 | .agg _=>true
 | .cQ .. =>true
 | _=>false
def rF(T:List TI)(hp:List Ck)(t:Nat)(x k v:SV):Option gY:=
 match aP T t with
 | some {k:= .map kt vt,.. }=>
  match aP T kt,aP T vt with
  | some tk,some tv=>
   match oR tk with
   | some (kl,ka)=>
    match qS ka k,eM v with
    | some kc,some vs=>
     match rowOf kc,x with
     | some (HL,a),.mp b=>
      match mg hp b with
      | some (j,.map b' mh xI yd zero has ay)=>
       if HL=kl∧mh=kl∧xI=ka∧yd=tv.k.agg∧j8 vs=bW ay∧zK v=tv.k.agg then
        match kU (I5 kl.length a) vs ay with
        | some aN=>some {val:= .undef,rd:=[j],gZ:= .set j (.map b' kl ka yd zero (.m7 (.m7 has (.lit 0) (sC (dB (eu has (.lit 0)) (.lit 1)) (sG .ib .i64 (eu has (I5 kl.length a)) (.lit 1)))) (I5 kl.length a) (.lit 1)) aN)}
        | none=>none
       else none
      | some (j,.tM b' mh xI yd zero es)=>
       if HL=kl∧mh=kl∧xI=ka∧yd=tv.k.agg∧zK v=tv.k.agg then
        match I5 kl.length a with
        | .lit n=>some {val:= .undef,rd:=[j],gZ:= .set j (.tM b' kl ka yd zero (lM n.toNat vs es))}
        | _=>none
       else none
      | _=>none
     | _,_=>none
    | _,_=>none
   | none=>none
  | _,_=>none
 | _=>none
def zL(T:List TI)(hp:List Ck)(t:Nat)(x k:SV):Option gY:=
 match aP T t with
 | some {k:= .map kt vt,.. }=>
  match aP T kt,aP T vt with
  | some tk,some tv=>
   match oR tk with
   | some (kl,ka)=>
    match qS ka k with
    | some kc=>
     match rowOf kc,x with
     | some (HL,a),.mp b=>
      match mg hp b with
      | some (j,.map b' mh xI yd zero has ay)=>
       if HL=kl∧mh=kl∧xI=ka∧yd=tv.k.agg∧kl≠[]∧ez zero tv.zero=true then
        (iU tv.k.agg tv.zero).map fun z=>{val:= .nO [z,.int .i64 (eu has (.lit 0))],vcs:=[Ql (eu has (I5 kl.length a)) (.lit 0)],rd:=[j],gZ:= .set j (.map b' kl ka yd zero (.m7 (.m7 has (.lit 0) (dB (eu has (.lit 0)) (.lit 1))) (I5 kl.length a) (dB (eu has (.lit 0)) (.lit 2))) ay)}
       else none
      | _=>none
     | _,_=>none
    | none=>none
   | none=>none
  | _,_=>none
 | _=>none
def zM(hp:List Ck)(x s v:SV):Option gY:=
 match x,s,eM v with
 | .mp b,.int .i64 e,some vs=>
  match mg hp b with
  | some (j,.map b' kl ka va zero (.m7 h (.kc n a) y) ay)=>
   if n=kl.length∧j8 vs=bW ay∧zK v=va then
    match kU (.kc n a) vs ay with
    | some aN=>some {val:= .undef,vcs:=[wz (.lit 0) e,Ql (eu (.m7 h (.kc n a) y) (.kc n a)) (dB e (.lit 2))],rd:=[j],gZ:= .set j (.map b' kl ka va zero (.m7 h (.kc n a) y) aN)}
    | none=>none
   else none
  | _=>none
 | _,_,_=>none
def bytesOf(T:List TI)(nv:Nat)(k:TK)(v:SV):Option gY:=
 match k with
 | .slice e=>
  match aP T e,qm v with
  | some te,some s=>if te.k= .int .u8∧te.size=1 then some {val:= .vv nv,vcs:=[wz (.lit 0) (kX s)].filter (fun b=>b != .lit true),gZ:= .DM (.cr false nv e 1 (kX s) [⟨.int .u8,1,Jw s⟩])}else none
  | _,_=>none
 | _=>none
def zN(T:List TI)(nv:Nat)(k:TK)(l:List UInt8):Option gY:=
 match k with
 | .slice e=>
  match aP T e with
  | some te=>if te.k= .int .u8∧te.size=1∧l.length≤1000 then some {val:= .vv nv,gZ:= .own (.cr true nv e 1 (.lit l.length) [⟨.int .u8,1,.pV (l.map fun b=>(b.toNat:Int))⟩])}else none
  | none=>none
 | _=>none
def rG(a n:E):E:=
 match eD n with
 | some k=>match vX a k with
  | some l=> .pV ((k:Int)::l)
  | none=>sF a n
 | none=>sF a n
def CX(hp:List Ck):SV→Option gY
 | .bu=>some {val:= .str []}
 | .sl b i 1 n _=>
  match findAt hp b,eD i,eD n with
  | some (j,.row _ _ cs),some i,some n=>
   match jy i n cs with
   | some xs=>
    match rowOf xs with
    | some (kl,a)=>if kl=List.replicate n .u8 then some {val:=mkStr (rG a (.lit n)),rd:=[j]}else none
    | none=>none
   | none=>none
  | some (j,.row _ _ [.cQ .u8 m a]),some 0,none=>some {val:=mkStr (rG a n),vcs:=[wz n (.lit m)].filter (fun b=>b != .lit true),rd:=[j]}
  | _,_,_=>none
 | .vv v=>
  match ey hp v with
  | some (j,.cr _ _ _ 1 n [⟨.int .u8,1,a⟩])=>some {val:=mkStr (rG a n),rd:=[j]}
  | _=>none
 | .jo v cs s=>
  match gL hp (.jo v cs s)with
  | some r=>match iY r.p.lo r.ay with
   | some [⟨.int .u8,1,a⟩]=>if r.s=1∧r.s=bW r.ay then some {val:=mkStr (rG a r.p.len),vcs:=r.vcs++ek (.lit 0) r.p.len,rd:=[r.j]}else none
   | _=>none
  | none=>none
 | _=>none
def oS(T:List TI)(hp:List Ck)(src:TypeId)(v:SV):Option gY:=
 match aP T src with
 | some ts=>
  match ts.k with
  | .slice e=>
   match aP T e with
   | some te=>if te.k= .int .u8 then CX hp v else none
   | none=>none
  | _=>none
 | none=>none
def zO(hp:List Ck)(ti:TI)(op:BinOp)(a b:SV):Option gY:=
 match ti.k,a,b with
 | .slice _,.vv i,.bu=>
  match ey hp i with
  | some (j,.cr ..)=>
   match op with
   | .eql=>some {val:= .bool (.BP i),rd:=[j]}
   | .neq=>some {val:= .bool (jT (.BP i)),rd:=[j]}
   | _=>none
  | _=>none
 | _,_,_=>none
def zP(ti:TI)(op:BinOp)(y:Operand)(a:SV):Option gY:=
 match ti.k,y,a with
 | .iface,.const .nilIface,.ov=>
  match op with
  | .eql=>some {val:= .bool (.lit true)}
  | .neq=>some {val:= .bool (.lit false)}
  | _=>none
 | .iface,.const .nilIface,.Mk .. =>
  match op with
  | .eql=>some {val:= .bool (.lit false)}
  | .neq=>some {val:= .bool (.lit true)}
  | _=>none
 | .iface,.const .nilIface,.QV .. =>
  match op with
  | .eql=>some {val:= .bool (.lit false)}
  | .neq=>some {val:= .bool (.lit true)}
  | _=>none
 | .iface,.const .nilIface,.Ga c _=>
  match op with
  | .eql=>some {val:= .bool (jT c)}
  | .neq=>some {val:= .bool c}
  | _=>none
 | _,_,_=>none
def yN(look:Nat→Option SV):Option Operand→Option (Option E)
 | none=>some none
 | some o=>match jA look o with
  | some (.int _ e)=>some (some e)
  | _=>none
def Ck.abE(b:Nat):Ck→Bool
 | .LH b' _ _=>b==b'
 | _=>false
def I6(hp:List Ck):SV→Option gY
 | .ptr b 0=>
  match hp.findIdx? (Ck.abE b)with
  | some j=>match hp[j]? with
   | some (.LH b' l pos)=>
    if b=b' then
     match l[pos]? with
     | some c=>if c.toNat<128 then some {val:= .nO [.bool (.lit true),.int .i64 (.lit pos),.int .i32 (.lit c.toNat)],rd:=[j],gZ:= .set j (.LH b' l (pos+1))}else none
     | none=>some {val:= .nO [.bool (.lit false)],rd:=[j]}
    else none
   | _=>none
  | none=>none
 | _=>none
def rangeMap(hp:List Ck)(nb:Nat)(k:TK)(m:Nat):Option gY:=
 match k with
 | .map _ _=>
  match mg hp m with
  | some (j,.map ..)=>some {val:= .ptr nb 0,rd:=[j],gZ:= .new (.ME nb m)}
  | _=>none
 | _=>none
def Ck.abF(b:Nat):Ck→Bool
 | .ME b' _=>b==b'
 | _=>false
def I7(hp:List Ck):SV→Option gY
 | .ptr b 0=>
  match hp.findIdx? (Ck.abF b)with
  | some j=>match hp[j]? with
   | some (.ME b' m)=>
    if b=b' then
     match mg hp m with
     | some (i,.map _ _ _ _ _ has _)=>if eD (eu has (.lit 0))=some 0 then some {val:= .nO [.bool (.lit false)],rd:=[j,i]}else none
     | _=>none
    else none
   | _=>none
  | none=>none
 | _=>none
def dR(T:List TI)(look:Nat→Option SV)(hp:List Ck)(nb nv:Nat)(o:Oper):Option gY:=
 let ev:=jA look
 match o.op with
 | .move x | .assign x=>(ev x).map fun v=>{val:=v}
 | .pick c a b=>
  match ev c,ev a,ev b with
  | some (.bool c),some a,some b=>(CU c a b).map fun v=>{val:=v}
  | _,_,_=>none
 | .alloc t=>(aP T t).bind fun ti=>match ti.k with
  | .Ih _ e=>if ez ti.zero [.cg,.bu]then some {val:= .ptr nb 0,gZ:= .new (.Ih nb t e (.lit 0) (.lit 0))}else none
  | _=>some {val:= .ptr nb 0,gZ:= .new (.row nb true ti.zero)}
 | .box _ x=>
  match ev x with
  | some v=>(eM v).map fun cs=>{val:= .ptr nb 0,gZ:= .new (.row nb true cs)}
  | none=>none
 | .build t parts=>
  match aP T t,partsOf look parts.toList with
  | some ti,some ps=>
   match ti.k with
   | .struct fs=>if qx T fs then(kV (iL T fs) ti.zero ps).map fun cs=>{val:= .agg cs}else none
   | .arr _ e=>
    match aP T e with
    | some te=>(kV (kJ te.size) ti.zero ps).map fun cs=>{val:= .agg cs}
    | none=>none
   | _=>none
  | _,_=>none
 | .buildSlice t len parts=>
  match aP T t,partsOf look parts.toList with
  | some ti,some ps=>
   match ti.k with
   | .slice e=>
    match aP T e with
    | some te=>if len=0 then(if ps.isEmpty then(iO T te).map fun z=>{val:= .vv nv,gZ:= .own (.cr true nv e te.size (.lit 0) z)}else none)else if te.size=0∨1000<len*te.size then none else(kV (kJ te.size) (List.replicate len te.zero).flatten ps).map fun cs=>{val:= .sl nb (.lit 0) te.size (.lit len) (.lit len),gZ:= .new (.row nb true cs)}
    | none=>none
   | _=>none
  | _,_=>none
 | .load t x=>
  match aP T t,ev x with
  | some ti,some a=>xO hp ti.k.agg ti.size a
  | _,_=>none
 | .store t x y=>
  match aP T t,ev x,ev y with
  | some ti,some a,some v=>yE hp ti.size v a
  | _,_,_=>none
 | .nilCheck x=>
  match ev x with
  | some (.ptr b c)=>some {val:= .ptr b c}
  | some (.pX b i s c)=>some {val:= .pX b i s c}
  | some (.ji e)=>some {val:= .ji e,vcs:=[Q0 e]}
  | some (.pv v i s c)=>match ey hp v with
   | some (j,.cr _ _ _ _ n _)=>some {val:= .pv v i s c,vcs:=iC i n,rd:=[j]}
   | _=>none
  | some (.fn f cs)=>some {val:= .fn f cs}
  | _=>none
 | .binOp op t x y _=>
  match aP T t,ev x,ev y with
  | some ti,some a,some b=>match zP ti op y a with
   | some r=>some r
   | none=>match zO hp ti op a b with
   | some r=>some r
   | none=>nS ti op a b
  | _,_,_=>none
 | .unOp op _ x=>
  match op,ev x with
  | .not,some (.bool b)=>some {val:= .bool (jT b)}
  | .xor,some (.int k a)=>some {val:= .int k (sG .cy k (.lit (if uL k then -1 else IntKind.hi k)) a)}
  | .neg,some (.int k a)=>some {val:= .int k (yG k (sC (.lit 0) a)).1,vcs:=(yG k (sC (.lit 0) a)).2}
  | _,_=>none
 | .convert src dst x=>
  match aP T src,aP T dst,ev x with
  | some _,some ti,some (.int _ a)=>
   match ti.k with
   | .int k=>some {val:= .int k (yH k a).1,vcs:=(yH k a).2}
   | _=>none
  | some ts,some ti,some (.str l)=>if ts.k= .str then zN T nv ti.k l else none
  | some ts,some ti,some (.lD s)=>if ts.k= .str then bytesOf T nv ti.k (.lD s)else none
  | some _,some ti,some (.sl b i s n m)=>
   match ti.k with
   | .slice e=>
    match aP T e,findAt hp b with
    | some te,some (j,.row b' true cs)=>if src=dst∧te.k= .int .u8 then some {val:= .sl b i s n m,rd:=[j],gZ:= .set j (.row b' false cs)}else none
    | _,_=>none
   | .str=>oS T hp src (.sl b i s n m)
   | _=>none
  | some _,some ti,some (.vv v)=>if ti.k= .str then oS T hp src (.vv v)else none
  | some _,some ti,some (.jo v cs s)=>if ti.k= .str then oS T hp src (.jo v cs s)else none
  | some _,some ti,some .bu=>if ti.k= .str then oS T hp src .bu else none
  | _,_,_=>none
 | .makeInterface t x=>
  match aP T t,ev x with
  | some ti,some (.int k e)=>if ti.k= .int k then some {val:= .Mk t k e}else none
  | some ti,some (.ptr b c)=>match ti.k with
   | .ptr _=>some {val:= .QV t b c}
   | _=>none
  | _,_=>none
 | .sliceToArrayPointer arr x=>
  match aP T arr,ev x with
  | some ta,some v=>
   match ta.k with
   | .arr n e=>
    match aP T e with
    | some _=>
     if n=0 then none else
     match v with
     | .sl b i s m _=>some {val:=DO b i s 0,vcs:=ek (.lit n) m}
     | v=>
      match gL hp v with
      | some r=>some {val:= .pv r.v r.p.lo r.s 0,vcs:=r.vcs++ek (.lit n) r.p.len,rd:=[r.j]}
      | none=>none
    | none=>none
   | _=>none
  | _,_=>none
 | .fieldAddr s x f=>
  match aP T s,ev x with
  | some ts,some a=>
   match ts.k with
   | .struct fs=>
    match fs[f]? with
    | some (t,off)=>
     match aP T t with
     | some ti=>if ti.size=0 then none else
      match a with
      | .ptr b c=>some {val:= .ptr b (c+off)}
      | .pX b i s c=>some {val:= .pX b i s (c+off)}
      | .pv v i s c=>
       match ey hp v with
       | some (j,.cr _ _ _ _ n _)=>some {val:= .pv v i s (c+off),vcs:=iC i n,rd:=[j]}
       | _=>none
      | _=>none
     | none=>none
    | none=>none
   | _=>none
  | _,_=>none
 | .field s x f=>
  match aP T s,ev x with
  | some ts,some (.agg cs)=>
   match ts.k with
   | .struct fs=>
    match fs[f]? with
    | some (t,off)=>
     match aP T t with
     | some ti=>
      match jy off ti.size cs with
      | some x=>(iU ti.k.agg x).map fun v=>{val:=v}
      | none=>none
     | none=>none
    | none=>none
   | _=>none
  | _,_=>none
 | .indexAddr t x y=>
  match aP T t,ev x,ev y with
  | some tt,some a,some (.int _ j)=>
   match tt.k with
   | .slice e=>
    match aP T e with
    | some te=>
     match a with
     | .sl b i s n _=>if te.size=s then some {val:=DO b (dB i j) s 0,vcs:=o6 i++iC j n}else none
     | a=>
      match gL hp a with
      | some r=>if te.size=r.s then some {val:= .pv r.v (dB r.p.lo j) r.s 0,vcs:=r.vcs++iC j r.p.len,rd:=[r.j]}else none
      | none=>none
    | none=>none
   | .arr n e=>
    match aP T e with
    | some te=>
     match a with
     | .ptr b c=>some {val:=DO b j te.size c,vcs:=iC j (.lit n)}
     | _=>none
    | none=>none
   | _=>none
  | _,_,_=>none
 | .index t x y=>
  match aP T t,ev x,ev y with
  | some tt,some (.agg cs),some (.int _ j)=>
   match tt.k with
   | .arr n e=>
    match aP T e with
    | some te=>
     match eD j with
     | some l=>if l<n then(match jy (l*te.size) te.size cs with
      | some x=>(iU te.k.agg x).map fun v=>{val:=v}
      | none=>none)else none
     | none=>
      match cs with
      | [.cQ k m a]=>if m=n∧te.size=1∧te.k.agg=false then some {val:= .int k (eu a j),vcs:=iC j (.lit n)}else none
      | _=>none
    | none=>none
   | _=>none
  | some tt,some v,some (.int _ j)=>if tt.k= .str then HJ v j else none
  | _,_,_=>none
 | .extract x i=>
  match ev x with
  | some (.nO vs)=>(vs[i]?).map fun v=>{val:=v}
  | _=>none
 | .makeFunc fn first iR=>
  match fn,first.toList with
  | .func f,[]=>(jB (iR.toList.map ev)).map fun cs=>{val:= .fn f cs}
  | .func f,x::r=>if iR.isEmpty then(jB ((x::r).map ev)).map fun cs=>{val:= .fm f cs}else none
  | _,_=>none
 | .call c=>
  match c.callee,c.args.toList,c.argTypes.toList with
  | .builtin .len,[x],[t]=>
   match aP T t,ev x with
   | some tt,some v=>HK hp tt.k v
   | _,_=>none
  | .builtin .cap,[x],[t]=>
   match aP T t,ev x with
   | some tt,some .bu=>match tt.k with
    | .slice _=>some {val:= .int .i64 (.lit 0)}
    | _=>none
   | _,_=>none
  | .builtin .max,[x,y],_=>
   match ev x,ev y with
   | some (.int k a),some (.int _ b)=>some {val:= .int k (sG .imax k a b)}
   | _,_=>none
  | .builtin .min,[x,y],_=>
   match ev x,ev y with
   | some (.int k a),some (.int _ b)=>some {val:= .int k (sG .ib k a b)}
   | _,_=>none
  | .builtin .append,[x,y],[ts,Yw]=>
   match aP T ts,ev x,ev y with
   | some tt,some x,some y=>vW T hp nv tt ts Yw x y
   | _,_,_=>none
  | .builtin .clear,[x],[t]=>
   match aP T t,ev x with
   | some tt,some v=>zJ T hp tt.k v
   | _,_=>none
  | .builtin .copy,[x,y],[ts,Yw]=>
   match aP T ts,ev x,ev y with
   | some tt,some x,some y=>if ts=Yw then CV T hp tt.k x y else none
   | _,_,_=>none
  | _,_,_=>none
 | .slice t x lo hi mx=>
  match aP T t,ev x,yN look lo,yN look hi,yN look mx with
  | some tt,some v,some l,some h,some m=>if tt.k= .str then(if m.isSome then none else zI v l h)else yQ T hp tt.k v l h m
  | _,_,_,_,_=>none
 | .makeMap t none=>tf T nb t
 | .lookup t x k comma=>
  match ev x,ev k with
  | some x,some k=>vZ T hp t x k comma
  | _,_=>none
 | .mapUpdate t x k v=>
  match ev x,ev k,ev v with
  | some x,some k,some v=>rF T hp t x k v
  | _,_,_=>none
 | .mapEntry t x k=>
  match ev x,ev k with
  | some x,some k=>zL T hp t x k
  | _,_=>none
 | .entryStore _ x s v=>
  match ev x,ev s,ev v with
  | some x,some s,some v=>zM hp x s v
  | _,_,_=>none
 | .insert t x k v=>
  match ev x,ev k,ev v with
  | some x,some k,some v=>rF T hp t x k v
  | _,_,_=>none
 | .makeSlice t n c=>
  match aP T t,ev n,ev c with
  | some tt,some (.int _ n),some (.int _ c)=>CW T nv tt.k n c
  | _,_,_=>none
 | .range t x=>
  match aP T t,ev x with
  | some ti,some (.str l)=>if ti.k= .str then some {val:= .ptr nb 0,gZ:= .new (.LH nb l 0)}else none
  | some ti,some (.mp m)=>rangeMap hp nb ti.k m
  | _,_=>none
 | .next x true=>(ev x).bind (I6 hp)
 | .next x false=>(ev x).bind (I7 hp)
 | _=>none
end Go.RX
