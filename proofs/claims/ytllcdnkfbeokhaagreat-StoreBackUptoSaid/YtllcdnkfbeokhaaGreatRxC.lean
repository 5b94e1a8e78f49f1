/- Executor. -/
import Derived.Test.YtllcdnkfbeokhaaGreatM00
namespace Go.RX
inductive CK where
 | int (k:IntKind) | bool | val (i:Nat) | ptr | bx | str | cv | Ic (l:List Nat) | pt (i:E) (v:Nat)
 deriving DecidableEq,Repr
structure bP where
 ck:CK
 w:Nat
 a:E
 deriving DecidableEq,Repr
inductive Jump where
 | none | ret | exit (id:Nat)
 deriving DecidableEq,Repr
def Jump.code:Jump→Option Code
 | .none=>Option.none
 | .ret=>some .ret
 | .exit id=>some (.exit id)
inductive RS where
 | ready | busy | done | exhausted
 deriving DecidableEq,Repr
def RS.st:RS→LoopState
 | .ready=> .ready
 | .busy=> .busy
 | .done=> .done
 | .exhausted=> .exhausted
inductive Ck where
 | emp
 | row (b:Nat) (wr:Bool) (cs:List SV)
 | cC (md:Bool) (v t s:Nat) (n:E) (aA:List bP)
 | abs (i:Nat)
 | my (l r:Nat) (s:RS) (j:Jump)
 | MO (b:Nat)
 | vB (b:Nat)
 | map (b:Nat) (kl:List IntKind) (ka va:Bool) (zero:List SV) (has:E) (aA:List bP)
 | vn (b:Nat) (kl:List IntKind) (ka va:Bool) (zero:List SV) (es:List (Nat×List SV))
 | KA (b t e:Nat) (n a:E)
 | O0 (b:Nat) (l:List UInt8) (pos:Nat)
 | P4 (b m:Nat)
 deriving Repr,Inhabited
def ay(k:IntKind)(w:Nat)(f:Nat→Int)(i:Nat):List Value:=aj k w fun j=>f (i*w+j)
def cY(w:Nat)(f:Nat→Int)(i:Nat):List Value:=(List.range w).map fun j=> .bool (!(f (i*w+j)==0))
def eA(w:Nat)(f:Nat→Value)(i:Nat):List Value:=(List.range w).map fun j=>f (i*w+j)
def vg(w:Nat)(f:Nat→Int)(i:Nat):List Value:=(List.range w).map fun j=>cN (f (i*w+j))
def bP.cells(ρ:Env)(c:bP):Nat→List Value:=
 match c.ck with
 | .int k=>ay k c.w (c.a.den ρ)
 | .bool=>cY c.w (c.a.den ρ)
 | .val v=>eA c.w fun j=>((ρ.va.getD v fun _=>V1.nil) j).v
 | .ptr=>vg c.w (c.a.den ρ)
 | .bx=>eA c.w fun _=> .slice none 0 0
 | .str=>eA c.w fun j=> .string ⟨(dC (qW (c.a.den ρ) j)).toArray⟩
 | .cv=>eA c.w fun j=>cc (c.a.den ρ j)
 | .Ic l=>eA c.w fun j=>((l[j]?).elim V1.nil fun n=>ρ.vv.getD n V1.nil).v
 | .pt i v=>eA c.w fun j=>if j=(i.den ρ 0).toNat then(ρ.vv.getD v V1.nil).v else cc (c.a.den ρ j)
def aM(n:Nat)(cs:List (Nat→List Value)):List Value:=(List.range n).flatMap fun i=>cs.flatMap fun c=>c i
def aG(ρ:Env)(n:Nat)(aA:List bP):List Value:=aM n (aA.map (bP.cells ρ))
def nX(es:List (Nat×List SV))(zero:List SV)(k:Nat):List SV:=
 match es with
 | []=>zero
 | (i,v)::r=>if i=k then v else nX r zero k
def rJ(es:List (Nat×List SV))(k:Nat):Bool:=
 match es with
 | []=>false
 | (i,_)::r=>if i=k then true else rJ r k
def je(k:Nat)(v:List SV):List (Nat×List SV)→List (Nat×List SV)
 | []=>[(k,v)]
 | (i,u)::r=>if i=k then(k,v)::r else(i,u)::je k v r
def Xe(es:List (Nat×List Value))(zero:List Value)(k:Nat):List Value:=
 match es with
 | []=>zero
 | (i,v)::r=>if i=k then v else Xe r zero k
def EW(ρ:Env)(es:List (Nat×List SV)):List (Nat×List Value):=
 match es with
 | []=>[]
 | (i,v)::r=>(i,SV.ao ρ v)::EW ρ r
theorem LN(ρ:Env)(zero:List SV)(k:Nat): ∀es:List (Nat×List SV),Xe (EW ρ es) (SV.ao ρ zero) k=SV.ao ρ (nX es zero k)
 | []=>rfl
 | (i,v)::r=>by simp only [EW,Xe,nX];split<;>first | rfl | exact LN ρ zero k r
def jA:Loop:=⟨.ready,none,0,#[],#[],.skip,.skip,0⟩
noncomputable def Ck.den(ρ:Env):Ck→HP
 | .emp=>HP.emp
 | .row b wr cs=>ak (ρ.bv.getD b 0) wr (SV.ao ρ cs)
 | .cC md v t s n aA=>aB md t s (ρ.vv.getD v V1.nil).v (n.den ρ 0).toNat (aG ρ (n.den ρ 0).toNat aA)
 | .abs i=>ρ.pv.getD i HP.emp
 | .my l r s j=>PK (ρ.bv.getD l 0) {ρ.lr.getD r jA with state:=s.st,pending:=j.code}
 | .MO b=>zQ (ρ.bv.getD b 0)
 | .vB b=>mv (rA (ρ.bv.getD b 0))
 | .map b kl ka va zero has aA=>oN (ρ.bv.getD b 0) kl ka va (SV.ao ρ zero) (has.den ρ) fun i=>(aA.map (bP.cells ρ)).flatMap fun c=>c i
 | .vn b kl ka va zero es=>uZ (ρ.bv.getD b 0) kl ka va (SV.ao ρ zero) (fun i=>rJ es i) fun i=>Xe (EW ρ es) (SV.ao ρ zero) i
 | .KA b t e n a=>Xz (ρ.bv.getD b 0) t e (aj .u8 (n.den ρ 0).toNat (a.den ρ))
 | .O0 b l pos=>Xx (ρ.bv.getD b 0) l pos
 | .P4 b m=>Xy (ρ.bv.getD b 0) (ρ.bv.getD m 0)
theorem Ck.ma(ρ:Env)(b:Nat)(kl:List IntKind)(ka va:Bool)(zero:List SV)(es:List (Nat×List SV)):
  Ck.den ρ (.vn b kl ka va zero es)=uZ (ρ.bv.getD b 0) kl ka va (SV.ao ρ zero) (fun i=>rJ es i) fun i=>SV.ao ρ (nX es zero i):=by
 simp only [Ck.den,LN]
inductive TK where
 | int (k:IntKind) | bool | str | ptr (e:Nat) | slice (e:Nat) | arr (n e:Nat) | struct (fs:List (Nat×Nat)) | map (k e:Nat) | func | iface | KA (fs:List (Nat×Nat)) (e:Nat)
 deriving DecidableEq,Repr
abbrev iY:=Option IntKind
structure TI where
 t:Nat
 k:TK
 size:Nat
 bytes:Nat
 zero:List SV
 lay:List (iY×Nat):=[]
 deriving Repr
def lW:List (iY×Nat)→List iY
 | []=>[]
 | (k,n)::r=>List.replicate n k++lW r
def rI:List SV→List iY→Bool
 | [],[]=>true
 | .int k _::r,some k'::l=>k==k'&&rI r l
 | .bool _::r,none::l=>rI r l
 | .dg k n _::r,l=>decide (n≤l.length)&&(l.take n).all (· ==some k)&&rI r (l.drop n)
 | _,_=>false
def aU(T:List TI)(t:Nat):Option TI:=T.find? fun i=>i.t==t
def TK.agg:TK→Bool
 | .arr .. =>true
 | .struct _=>true
 | .KA .. =>true
 | _=>false
def dP:E→E→E
 | .lit a,.lit b=> .lit (a+b)
 | .lit 0,b=>b
 | a,.lit 0=>a
 | a,b=> .bin .add .i64 a b
def tU:E→E→E
 | .lit a,.lit b=> .lit (a - b)
 | a,.lit 0=>a
 | a,b=> .bin .sub .i64 a b
def rB:E→E→E
 | .lit a,.lit b=> .lit (a*b)
 | .lit 1,b=>b
 | a,.lit 1=>a
 | a,b=> .bin .mul .i64 a b
def lA:E→E→E
 | a,.lit 0=>a
 | .lit n,_=> .lit n
 | a,o=> .shift a o
def E.acw:E→Bool
 | .lit _=>true
 | .var _=>true
 | .TN .. =>true
 | .bin .. =>true
 | .wrap .. =>true
 | .kc .. =>true
 | .tS _=>true
 | _=>false
def DC(v:E):E:=if v.acw then v else .TN v (.lit 0)
def DE:E→E→E
 | .lit n,_=> .lit n
 | .ry a (.lit j) s,.lit i=>if i.toNat=j.toNat then s else DE a (.lit i)
 | .ry a j s,i=>if i=j then s else .Un (.ry a j s) i
 | a,i=> .Un a i
def eJ:E→E→E
 | .lit n,_=> .lit n
 | .qV l,.lit i=> .lit (l.getD i.toNat 0)
 | .nm b (.lit j) v,.lit i=>if i.toNat=j.toNat then DC v else eJ b (.lit i)
 | .shift b (.lit o),.lit i=>eJ b (.lit (o.toNat+i.toNat:Nat))
 | .jI b (.lit o) (.lit n) x,.lit i=>if o.toNat≤i.toNat∧i.toNat<o.toNat+n.toNat then eJ x (.lit (i.toNat - o.toNat:Nat))else eJ b (.lit i)
 | .nm b i v,i'=>if i=i' then DC v else .TN (.nm b i v) i'
 | a,i=> .TN a i
def tY(o:IOp)(k:IntKind):E→E→E
 | .lit a,.lit b=> .lit (ar o k a b)
 | a,b=> .bin o k a b
def PR(k:IntKind):E→E
 | .lit a=> .lit (k.wrap a)
 | a=> .wrap k a
def Uu:E→BE
 | .lit n=> .lit (!(n==0))
 | a=> .nz a
def TO:E→E→BE
 | .lit a,.lit b=> .lit (a==b)
 | a,b=>if a=b then .lit true else .eq a b
def IB:E→E→BE
 | .lit a,.lit b=> .lit (decide (a<b))
 | a,b=> .lt a b
def xS:E→E→BE
 | .lit a,.lit b=> .lit (decide (a≤b))
 | a,b=> .le a b
def j5:BE→BE
 | .lit b=> .lit (!b)
 | .not b=>b
 | b=> .not b
def B_:BE→BE→BE
 | .lit true,b=>b
 | .lit false,_=> .lit false
 | a,.lit true=>a
 | a,b=> .and a b
def bOr:BE→BE→BE
 | .lit false,b=>b
 | .lit true,_=> .lit true
 | a,.lit false=>a
 | a,b=> .or a b
def FO:BE→BE→BE→BE
 | .lit true,a,_=>a
 | .lit false,_,b=>b
 | c,.lit true,b=>bOr c b
 | c,a,.lit false=>B_ c a
 | c,a,b=> .ite c a b
def B9(l:List UInt8):E:= .qV ((l.length:Int)::l.map fun b=>((b.toNat:Nat):Int))
def rC:SV→Option E
 | .str l=>some (B9 l)
 | .mu s=>some s
 | _=>none
def mkStr:E→SV
 | .qV (n::l)=>if(n==(l.length:Int))&&l.all (fun b=>decide (0≤b)&&decide (b<256))then .str (l.map fun b=>UInt8.ofNat b.toNat)else .mu (.qV (n::l))
 | s=> .mu s
def lU(s:E):E:=eJ s (.lit 0)
def Mo:E→E
 | .qV (n::l)=>if l.all (fun b=>decide (0≤b)&&decide (b<256))then .qV l else .Xu (.qV (n::l))
 | s=> .Xu s
def tX(a n:E):E:= .nm (.jI (.lit 0) (.lit 1) n a) (.lit 0) n
def CQ(s lo hi:E):E:=
 match s with
 | .nm x (.lit 0) _=> .nm (lA x lo) (.lit 0) (tU hi lo)
 | s=> .nm (lA s lo) (.lit 0) (tU hi lo)
def Mr(s t:E):E:= .nm (.jI s (dP (lU s) (.lit 1)) (lU t) (lA t (.lit 1))) (.lit 0) (dP (lU s) (lU t))
def Ut(a b:E):BE:=if a=b then .lit true else .seq a b
mutual
def SV.width:SV→Nat
 | .dg _ n _=>n
 | .agg cs=>SV.pY cs
 | _=>1
def SV.pY:List SV→Nat
 | []=>0
 | v::r=>SV.width v+SV.pY r
end
abbrev kM(cs:List SV):Nat:=SV.pY cs
def gN:Nat→List SV→Option (List SV)
 | 0,cs=>some cs
 | _+1,[]=>some []
 | _+1,.agg _::_=>none
 | d+1,.dg k n a::r=>if d+1<n then some (.dg k (n - (d+1)) (lA a (.lit (d+1:Nat)))::r)else gN (d+1 - n) r
 | d+1,_::r=>gN d r
def js:Nat→List SV→Option (List SV)
 | 0,_=>some []
 | _+1,[]=>some []
 | _+1,.agg _::_=>none
 | d+1,.dg k n a::r=>if d+1≤n then some [.dg k (d+1) a]else(js (d+1 - n) r).map (.dg k n a:: ·)
 | d+1,v::r=>(js d r).map (v:: ·)
def j6(c size:Nat)(cs:List SV):Option (List SV):=
 if c+size≤kM cs then
  match gN c cs with
  | some r=>js size r
  | none=>none
 else none
def wO(c:Nat)(vs cs:List SV):Option (List SV):=
 if c+kM vs≤kM cs then
  match js c cs,gN (c+kM vs) cs with
  | some a,some b=>some (a++vs++b)
  | _,_=>none
 else none
def jt(agg:Bool)(cs:List SV):Option SV:=
 if agg then some (.agg cs)else
 match cs with
 | [.dg k 1 a]=>some (.int k (eJ a (.lit 0)))
 | [.dg ..]=>none
 | [.agg _]=>none
 | [v]=>some v
 | _=>none
def SV.one:SV→Bool
 | .agg _=>false
 | .opt .. =>false
 | .undef=>false
 | .oL _=>false
 | _=>true
def fk:SV→Option (List SV)
 | .agg cs=>if cs.all SV.one then some cs else none
 | v=>if v.one then some [v]else none
mutual
def ofValue:Value→Option SV
 | .int k n=>some (.int k (.lit n))
 | .bool b=>some (.bool (.lit b))
 | .pointer none=>some .cu
 | .slice none 0 0=>some .bx
 | .nilFunc=>some .kD
 | .nilIface=>some .pf
 | .map none=>some .nT
 | .string ⟨⟨l⟩⟩=>some (.str l)
 | .tuple ⟨[]⟩=>some .undef
 | .agg ⟨l⟩=>(ofValues l).map .agg
 | _=>none
def ofValues:List Value→Option (List SV)
 | []=>some []
 | .agg _::_=>none
 | v::r=>match ofValue v,ofValues r with
  | some x,some xs=>some (x::xs)
  | _,_=>none
end
def j8(look:Nat→Option SV):Operand→Option SV
 | .tmp t=>look t
 | .const v=>ofValue v
 | .global _=>none
 | .func f=>some (.fn f [])
def Ck.s5(b:Nat):Ck→Bool
 | .row b' _ _=>b==b'
 | _=>false
def Ck.mI(v:Nat):Ck→Bool
 | .cC _ v' _ _ _ _=>v==v'
 | _=>false
def findAt(hp:List Ck)(b:Nat):Option (Nat×Ck):=
 match hp.findIdx? (Ck.s5 b)with
 | some i=>(hp[i]?).map fun c=>(i,c)
 | none=>none
def eK(hp:List Ck)(v:Nat):Option (Nat×Ck):=
 match hp.findIdx? (Ck.mI v)with
 | some i=>(hp[i]?).map fun c=>(i,c)
 | none=>none
def iZ(i n:E):List BE:=
 [xS (.lit 0) i,IB i n].filter fun b=>b != .lit true
def mkP:E→SV
 | .tS b=> .ptr b 0
 | .lit n=>if n=0 then .cu else .jE (.lit n)
 | e=> .jE e
def eU:E→Option Nat
 | .lit (.ofNat n)=>some n
 | _=>none
def DG(c:bP)(i:E):Option SV:=
 match c.ck with
 | .int k=>if c.w=1 then some (.int k (eJ c.a i))else some (.dg k c.w (lA c.a (rB i (.lit c.w))))
 | .bool=>if c.w=1 then some (.bool (Uu (eJ c.a i)))else none
 | .val v=>if c.w=1 then some (.FJ v i)else none
 | .ptr=>if c.w=1 then some (mkP (eJ c.a i))else none
 | .bx=>if c.w=1 then some .bx else none
 | .str=>if c.w=1 then some (mkStr (DE c.a i))else none
 | .cv=>if c.w=1 then some (.Ku (eJ c.a i))else none
 | .Ic l=>match eU i with
  | some k=>match l[k]? with
   | some n=>if c.w=1 then some (.vv n)else none
   | none=>none
  | none=>none
 | .pt j v=>if c.w=1∧j=i then some (.vv v)else none
def po(i:E):List bP→Option (List SV)
 | []=>some []
 | c::r=>match DG c i,po i r with
  | some x,some xs=>some (x::xs)
  | _,_=>none
def b_(aA:List bP):Nat:=(aA.map bP.w).sum
def DK(i:E)(v:SV)(c:bP):Option bP:=
 match c.ck,v with
 | .int k,.int k' e=>if c.w=1∧k=k' then some {c with a:= .nm c.a i e}else none
 | .int k,.dg k' n b=>if c.w=n∧k=k' then some {c with a:= .jI c.a (rB i (.lit n)) (.lit n) b}else none
 | .bool,.bool (.lit x)=>if c.w=1 then some {c with a:= .nm c.a i (.lit (if x then 1 else 0))}else none
 | .bool,.bool (.nz e)=>if c.w=1 then some {c with a:= .nm c.a i e}else none
 | .ptr,.ptr b o=>if c.w=1∧o=0 then some {c with a:= .nm c.a i (.tS b)}else none
 | .ptr,.cu=>if c.w=1 then some {c with a:= .nm c.a i (.lit 0)}else none
 | .ptr,.jE e=>if c.w=1 then some {c with a:= .nm c.a i e}else none
 | .bx,.bx=>if c.w=1 then some c else none
 | .str,.str l=>if c.w=1 then some {c with a:= .ry c.a i (B9 l)}else none
 | .str,.mu s=>if c.w=1 then some {c with a:= .ry c.a i s}else none
 | .cv,.Ku e=>if c.w=1 then some {c with a:= .nm c.a i e}else none
 | .cv,.bx=>if c.w=1 then some {c with a:= .nm c.a i (.lit 0)}else none
 | .pt j _,.vv v=>if c.w=1∧j=i then some {c with ck:= .pt j v}else none
 | _,_=>none
def xU:Nat→E→List SV→Option (List IntKind×E)
 | _,acc,[]=>some ([],acc)
 | o,acc,.int k e::r=>match xU (o+1) (.nm acc (.lit o) e) r with
  | some (l,a)=>some (k::l,a)
  | none=>none
 | o,acc,.dg k n b::r=>match xU (o+n) (.jI acc (.lit o) (.lit n) b) r with
  | some (l,a)=>some (List.replicate n k++l,a)
  | none=>none
 | _,_,_=>none
def rowOf(cs:List SV):Option (List IntKind×E):=
 match cs with
 | [.dg k n a]=>some (List.replicate n k,a)
 | [.int k e]=>some ([k],e)
 | cs=>xU 0 (.lit 0) cs
def align:List bP→List SV→Option (List SV)
 | _,[]=>some []
 | [],v::r=>some (v::r)
 | c::aA,v::r=>
  if v.width=c.w then(align aA r).map (v:: ·)else
  match c.ck,j6 0 c.w (v::r),gN c.w (v::r)with
  | .int k,some x,some rest=>
   match rowOf x with
   | some (kl,a)=>if kl=List.replicate c.w k then(align aA rest).map (.dg k c.w a:: ·)else none
   | none=>none
  | _,_,_=>none
def pq(i:E):List SV→List bP→Option (List bP)
 | [],aA=>some aA
 | v::r,c::aA=>match DK i v c,pq i r aA with
  | some c',some aS=>some (c'::aS)
  | _,_=>none
 | _::_,[]=>none
def lQ(i:E)(vs:List SV)(aA:List bP):Option (List bP):=
 match align aA vs with
 | some Ib=>pq i Ib aA
 | none=>none
def pr(i:E)(vs:List SV):Nat→List bP→Option (List bP)
 | 0,aA=>lQ i vs aA
 | _+1,[]=>none
 | o+1,c::r=>if c.w≤o+1 then(pr i vs (o+1 - c.w) r).map (c:: ·)else none
def KB(c:Nat)(cs:List SV):Option (List SV×IntKind×Nat×E×List SV):=
 if c≤kM cs then
  match gN c cs,js c cs with
  | some (.dg k n a::r),some pre=>some (pre,k,n,a,r)
  | _,_=>none
 else none
inductive Ar where
 | none
 | new (ck:Ck)
 | set (i:Nat) (ck:Ck)
 | app (i:Nat) (ck:Ck)
 | own (ck:Ck)
 | FZ (ck:Ck)
 deriving Repr
structure iC where
 val:SV
 vcs:List BE:=[]
 rd:List Nat:=[]
 iD:Ar:= .none
 deriving Repr
def wR(o:BinOp)(x y:SV):Option iC:=
 match x,y with
 | .str a,.str b=>
  match o with
  | .add=>if a.length+b.length≤1000000 then some {val:= .str (a++b)}else none
  | .eql=>some {val:= .bool (.lit (a==b))}
  | .neq=>some {val:= .bool (.lit (!(a==b)))}
  | _=>none
 | x,y=>
  match rC x,rC y with
  | some a,some b=>
   match o with
   | .add=>some {val:= .mu (Mr a b),vcs:=LO (lU a)++LO (lU b)++[xS (dP (lU a) (lU b)) (.lit 9223372036854775807)]}
   | .eql=>some {val:= .bool (Ut a b)}
   | .neq=>some {val:= .bool (j5 (Ut a b))}
   | _=>none
  | _,_=>none
 where LO (b:E):List BE:=[xS (.lit 0) b].filter fun b=>b != .lit true
def J8(v:SV)(j:E):Option iC:=
 match v with
 | .str l=>
  match j with
  | .lit (.ofNat i)=>if i<l.length then some {val:= .int .u8 (.lit (l.getD i 0).toNat)}else none
  | j=>some {val:= .int .u8 (eJ (.qV (l.map fun b=>((b.toNat:Nat):Int))) j),vcs:=[xS (.lit 0) j,IB j (.lit l.length)].filter fun b=>b != .lit true}
 | .mu s=>some {val:= .int .u8 (eJ (Mo s) j),vcs:=[xS (.lit 0) j,IB j (lU s)].filter fun b=>b != .lit true}
 | _=>none
def uG(s a b:E):iC:={val:= .mu (CQ s a b),vcs:=leS (.lit 0) a++leS a b++leS b (lU s)}
 where leS (a b:E):List BE:=if a=b then []else [xS a b].filter fun b=>b != .lit true
def Bv(v:SV)(lo hi:Option E):Option iC:=
 match v with
 | .str l=>
  match lo.getD (.lit 0),hi.getD (.lit l.length)with
  | .lit (.ofNat a),.lit (.ofNat b)=>if a≤b∧b≤l.length then some {val:= .str ((l.take b).drop a)}else none
  | a,b=>some (uG (B9 l) a b)
 | .mu s=>some (uG s (lo.getD (.lit 0)) (hi.getD (lU s)))
 | _=>none
structure cG where
 b:Nat:=0
 v:Nat:=0
 i:Nat:=0
 a:Nat:=0
 bo:Nat:=0
 p:Nat:=0
 r:Nat:=0
 deriving Repr,DecidableEq
def F1(b:Nat)(i:E)(s c:Nat):SV:=
 match eU i with
 | some n=> .ptr b (n*s+c)
 | none=> .qX b i s c
def eG(a b:E):List BE:=if a=b then []else [xS a b].filter fun b=>b != .lit true
def vi:Nat→E→List SV→Option E
 | _,acc,[]=>some acc
 | o,acc,.str l::r=>vi (o+1) (.ry acc (.lit o) (B9 l)) r
 | o,acc,.mu s::r=>vi (o+1) (.ry acc (.lit o) s) r
 | _,_,_=>none
def PX(cs:List SV):Option E:=vi 0 (.lit 0) cs
def zj(hp:List Ck)(agg:Bool)(size:Nat):SV→Option iC
 | .ptr b c=>
  match findAt hp b with
  | some (j,.row _ _ cs)=>
   match j6 c size cs with
   | some x=>(jt agg x).map fun v=>{val:=v,rd:=[j]}
   | none=>none
  | _=>none
 | .qX b i s c=>
  match findAt hp b with
  | some (j,.row _ _ cs)=>
   if s=1∧size=1∧agg=false then
    match KB c cs with
    | some (_,k,n,a,_)=>some {val:= .int k (eJ a i),vcs:=iZ i (.lit n),rd:=[j]}
    | none=>if c=0 then match PX cs with
     | some a=>some {val:=mkStr (DE a i),vcs:=iZ i (.lit cs.length),rd:=[j]}
     | none=>none
     else none
   else none
  | _=>none
 | .pv v i s c=>
  match eK hp v with
  | some (j,.cC _ _ _ s' n aA)=>
   if s=s'∧s=b_ aA then
    if s<size then
     match aA with
     | [⟨.int k,1,a⟩]=>if c=0∧agg=true then some {val:= .agg [.dg k size (lA a i)],vcs:=eG (.lit 0) i++eG (dP i (.lit size)) n,rd:=[j]}else none
     | _=>none
    else
    match po i aA with
    | some es=>match j6 c size es with
     | some y=>(jt agg y).map fun x=>{val:=x,vcs:=iZ i n,rd:=[j]}
     | none=>none
    | none=>none
   else none
  | _=>none
 | _=>none
def zZ(hp:List Ck)(size:Nat)(v:SV):SV→Option iC
 | .ptr b c=>
  match findAt hp b,fk v with
  | some (j,.row b' true cs),some vs=>
   if kM vs=size then
    (wO c vs cs).map fun ra=>{val:= .undef,rd:=[j],iD:= .set j (.row b' true ra)}
   else none
  | _,_=>none
 | .qX b i s c=>
  match findAt hp b,fk v with
  | some (j,.row b' true cs),some [.int k e]=>
   if s=1∧size=1 then
    match KB c cs with
    | some (pre,k',n,a,post)=>if k=k' then some {val:= .undef,vcs:=iZ i (.lit n),rd:=[j],iD:= .set j (.row b' true (pre++ .dg k n (.nm a i e)::post))}else none
    | none=>none
   else none
  | _,_=>none
 | .pv x i s c=>
  match eK hp x,fk v with
  | some (j,.cC true x' t s' n aA),some vs=>
   if s=s'∧s=b_ aA∧0<size∧kM vs=size then
    (pr i vs c aA).map fun aS=>{val:= .undef,vcs:=iZ i n,rd:=[j],iD:= .set j (.cC true x' t s' n aS)}
   else none
  | _,_=>none
 | _=>none
def mM:List SV→List SV→Option BE
 | [],[]=>some (.lit true)
 | .int k a::r,.int k' b::r'=>if k=k' then(mM r r').map (B_ (TO a b))else none
 | .bool a::r,.bool b::r'=>(mM r r').map (B_ (FO a b (j5 b)))
 | .dg k n a::r,.dg k' n' b::r'=>if k=k'∧n=n' then(mM r r').map (B_ (if a=b then .lit true else .Xv n a b))else none
 | _,_=>none
def ib:List SV→List SV
 | []=>[]
 | .dg k n a::r=>((List.range n).map fun j:Nat=>SV.int k (eJ a (.lit j)))++ib r
 | v::r=>v::ib r
def Aa(a b:List SV):Option BE:=
 match mM a b with
 | some c=>some c
 | none=>mM (ib a) (ib b)
def ptrEq(k:TK)(x y:SV):Option BE:=
 match k,x,y with
 | .ptr _,.cu,.cu=>some (.lit true)
 | .ptr _,.cu,.ptr .. =>some (.lit false)
 | .ptr _,.ptr ..,.cu=>some (.lit false)
 | .ptr _,.cu,.qX .. =>some (.lit false)
 | .ptr _,.qX ..,.cu=>some (.lit false)
 | .ptr _,.cu,.jE e=>some (TO e (.lit 0))
 | .ptr _,.jE e,.cu=>some (TO e (.lit 0))
 | .slice _,.bx,.bx=>some (.lit true)
 | .slice _,.bx,.sl .. =>some (.lit false)
 | .slice _,.sl ..,.bx=>some (.lit false)
 | .func,.kD,.kD=>some (.lit true)
 | .func,.kD,.fn .. =>some (.lit false)
 | .func,.fn ..,.kD=>some (.lit false)
 | .func,.fm ..,.kD=>some (.lit false)
 | _,_,_=>none
def IntKind.lo:IntKind→Int
 | .i8=> -128 | .i16=> -32768 | .i32=> -2147483648 | .i64=> -9223372036854775808 | _=>0
def IntKind.hi:IntKind→Int
 | .i8=>127 | .i16=>32767 | .i32=>2147483647 | .i64=>9223372036854775807
 | .u8=>255 | .u16=>65535 | .u32=>4294967295 | .u64=>18446744073709551615
def wo:IntKind→Bool
 | .i8 | .i16 | .i32 | .i64=>true
 | _=>false
def z9(k:IntKind)(e:E):E×List BE:=
 match e with
 | .lit n=>(.lit (k.wrap n),[])
 | .bin .add _ (.wrap .i64 _) _=>(.wrap k e,[])
 | _=>if wo k then(e,[.le (.lit (IntKind.lo k)) e,.le e (.lit (IntKind.hi k))])else(.wrap k e,[])
def z_(k:IntKind)(e:E):E×List BE:=
 match e with
 | .wrap .u64 (.bin .sub .i64 (.lit 0) _)=>if wo k then(.wrap k e,[])else z9 k e
 | _=>z9 k e
def p6(b:E):List BE:=[xS (.lit 0) b].filter fun b=>b != .lit true
def oO(ti:TI)(o:BinOp)(x y:SV):Option iC:=
 match x,y with
 | .int k a,.int k' b=>
  match o with
  | .shl=>some {val:= .int k (tY .shl k a b),vcs:=p6 b}
  | .shr=>some {val:= .int k (tY .shr k a b),vcs:=p6 b}
  | _=>
  if k≠k' then none else
  match o with
  | .add=>let (e,vc):=z9 k (dP a b);some {val:= .int k e,vcs:=vc}
  | .sub=>let (e,vc):=z9 k (tU a b);some {val:= .int k e,vcs:=vc}
  | .mul=>let (e,vc):=z9 k (rB a b);some {val:= .int k e,vcs:=vc}
  | .quo=>some {val:= .int k (PR k (tY .quo k a b)),vcs:=[Uu b]}
  | .rem=>some {val:= .int k (tY .rem k a b),vcs:=[Uu b]}
  | .and=>some {val:= .int k (tY .gp k a b)}
  | .or=>some {val:= .int k (tY .cK k a b)}
  | .xor=>some {val:= .int k (tY .cz k a b)}
  | .andNot=>some {val:= .int k (tY .Um k a b)}
  | .eql=>some {val:= .bool (TO a b)}
  | .neq=>some {val:= .bool (j5 (TO a b))}
  | .lss=>some {val:= .bool (IB a b)}
  | .leq=>some {val:= .bool (xS a b)}
  | .gtr=>some {val:= .bool (IB b a)}
  | .geq=>some {val:= .bool (xS b a)}
  | _=>none
 | .bool a,.bool b=>
  if ti.k≠ .bool then none else
  match o with
  | .eql=>some {val:= .bool (FO a b (j5 b))}
  | .neq=>some {val:= .bool (j5 (FO a b (j5 b)))}
  | _=>none
 | .agg a,.agg b=>
  if !ti.k.agg||ti.lay.isEmpty|| !(rI a (lW ti.lay))|| !(rI b (lW ti.lay))then none else
  match o,Aa a b with
  | .eql,some c=>some {val:= .bool c}
  | .neq,some c=>some {val:= .bool (j5 c)}
  | _,_=>none
 | a,b=>
  if ti.k= .str then wR o a b else
  match o,ptrEq ti.k a b with
  | .eql,some c=>some {val:= .bool c}
  | .neq,some c=>some {val:= .bool (j5 c)}
  | _,_=>none
def lR(place:Nat→Option (Nat×Nat))(cells:List SV):List (Nat×List SV)→Option (List SV)
 | []=>some cells
 | (i,cs)::r=>
  match place i with
  | some (off,size)=>
   if kM cs=size then
    match wO off cs cells with
    | some abw=>lR place abw r
    | none=>none
   else none
  | none=>none
def jh(T:List TI)(fs:List (Nat×Nat))(i:Nat):Option (Nat×Nat):=
 match fs[i]? with
 | some (t,off)=>(aU T t).map fun ti=>(off,ti.size)
 | none=>none
def lE(size:Nat)(i:Nat):Option (Nat×Nat):=some (i*size,size)
def rK(T:List TI)(fs:List (Nat×Nat)):Bool:=fs.all fun f=>(aU T f.1).isSome
def partsOf(look:Nat→Option SV):List (Nat×Operand)→Option (List (Nat×List SV))
 | []=>some []
 | (i,x)::r=>
  match j8 look x,partsOf look r with
  | some v,some rest=>(fk v).map fun cs=>(i,cs)::rest
  | _,_=>none
def j9:List (Option SV)→Option (List SV)
 | []=>some []
 | some v::r=>(j9 r).map (v:: ·)
 | none::_=>none
def EX(c:BE)(a b:SV):Option SV:=
 match c with
 | .lit true=>some a
 | .lit false=>some b
 | c=>
  match a,b with
  | .bool x,.bool y=>some (.bool (FO c x y))
  | .bool x,.opt g (.bool y)=>if g=j5 c then some (.bool (FO c x y))else none
  | .opt g (.bool x),.bool y=>if g=c then some (.bool (FO c x y))else none
  | _,_=>none
structure Part where
 lo:E
 len:E
 mx:Option E
 deriving Repr
def oh(n:E)(p:Part)(c:Cut):Part×List BE:=
 (⟨dP p.lo c.lo,tU c.hi c.lo,match c.mx with | some m=>some (dP p.lo m) | none=>p.mx⟩,
  eG (.lit 0) c.lo++eG c.lo c.hi++
  match c.mx,p.mx with
  | none,none=>eG (dP p.lo c.hi) n
  | none,some m0=>eG (dP p.lo c.hi) m0
  | some m,none=>eG c.hi m++eG (dP p.lo m) n
  | some m,some m0=>eG c.hi m++eG (dP p.lo m) m0)
def uh(n:E):List Cut→Part→Part×List BE
 | [],p=>(p,[])
 | c::r,p=>((uh n r (oh n p c).1).1,(oh n p c).2++(uh n r (oh n p c).1).2)
structure Rt where
 j:Nat
 md:Bool
 v:Nat
 t:Nat
 s:Nat
 n:E
 aA:List bP
 p:Part
 vcs:List BE
def ic(hp:List Ck):SV→Option Rt
 | .vv v=>match eK hp v with
  | some (j,.cC md _ t s n aA)=>some ⟨j,md,v,t,s,n,aA,⟨.lit 0,n,none⟩,[]⟩
  | _=>none
 | .jJ v cs s'=>match eK hp v with
  | some (j,.cC md _ t s n aA)=>if s=s' then some ⟨j,md,v,t,s,n,aA,(uh n cs ⟨.lit 0,n,none⟩).1,(uh n cs ⟨.lit 0,n,none⟩).2⟩else none
  | _=>none
 | _=>none
def Ck.isMap(b:Nat):Ck→Bool
 | .map b' .. =>b==b'
 | .vn b' .. =>b==b'
 | _=>false
def mX(hp:List Ck)(b:Nat):Option (Nat×Ck):=
 match hp.findIdx? (Ck.isMap b)with
 | some i=>(hp[i]?).map fun c=>(i,c)
 | none=>none
def J9(hp:List Ck)(k:TK)(v:SV):Option iC:=
 match k with
 | .map _ _=>
  match v with
  | .mp b=>
   match mX hp b with
   | some (j,.map _ _ _ _ _ has _)=>some {val:= .int .i64 (eJ has (.lit 0)),rd:=[j]}
   | _=>none
  | .nT=>some {val:= .int .i64 (.lit 0)}
  | _=>none
 | .slice _=>
  match v with
  | .sl _ _ _ n _=>some {val:= .int .i64 n,vcs:=p6 n}
  | .bx=>some {val:= .int .i64 (.lit 0)}
  | .vv v=>
   match eK hp v with
   | some (j,.cC _ _ _ _ n _)=>some {val:= .int .i64 n,vcs:=p6 n,rd:=[j]}
   | _=>none
  | .jJ v cs s=>
   match ic hp (.jJ v cs s)with
   | some r=>some {val:= .int .i64 r.p.len,vcs:=r.vcs++eG (.lit 0) r.p.len,rd:=[r.j]}
   | none=>none
  | _=>none
 | .str=>
  match v with
  | .str l=>some {val:= .int .i64 (.lit l.length)}
  | .mu s=>some {val:= .int .i64 (lU s),vcs:=p6 (lU s)}
  | _=>none
 | _=>none
mutual
def xC(T:List TI):Nat→Nat→Option (List bP)
 | 0,_=>none
 | d+1,t=>
  match aU T t with
  | some {k:= .int k,.. }=>some [⟨.int k,1,.lit 0⟩]
  | some {k:= .bool,.. }=>some [⟨.bool,1,.lit 0⟩]
  | some {k:= .ptr _,.. }=>some [⟨.ptr,1,.lit 0⟩]
  | some {k:= .slice _,.. }=>some [⟨.bx,1,.lit 0⟩]
  | some {k:= .str,.. }=>some [⟨.str,1,.lit 0⟩]
  | some {k:= .arr n e,.. }=>match aU T e with
   | some {k:= .int k,.. }=>some [⟨.int k,n,.lit 0⟩]
   | _=>none
  | some {k:= .struct fs,.. }=>LP T d fs
  | _=>none
def LP(T:List TI):Nat→List (Nat×Nat)→Option (List bP)
 | 0,_=>none
 | _+1,[]=>some []
 | d+1,(t,_)::r=>match xC T d t,LP T d r with
  | some a,some b=>some (a++b)
  | _,_=>none
end
def xD(T:List TI)(hp:List Ck)(nv:Nat)(k:TK)(x y:SV):Option iC:=
 match x,y with
 | .vv v,.sl b i s m _=>
  match eK hp v,findAt hp b with
  | some (j,.cC true _ t s' n aA),some (j',.row _ _ cs)=>
   match lQ n cs aA,aU T t with
   | some aS,some te=>
    if i= .lit 0∧m= .lit 1∧k= .slice t∧s=s'∧s=b_ aA∧kM cs=s∧0<s∧cs.all SV.one=true∧te.size=s then
     some {val:= .vv nv,vcs:=p6 n++[.le (.bin .mul .i64 (.bin .add .i64 n (.lit 1)) (.lit (max 1 te.bytes:Nat))) (.lit 140737488355328)],rd:=[j,j'],iD:= .app j (.cC true nv t s (dP n (.lit 1)) aS)}
    else none
   | _,_=>none
  | _,_=>none
 | .bx,.sl b i s m _=>
  match findAt hp b,k with
  | some (j',.row _ _ cs),.slice t=>
   match aU T t,xC T 30 t with
   | some te,some aA=>
    match lQ (.lit 0) cs aA with
    | some aS=>
     if i= .lit 0∧m= .lit 1∧s=b_ aA∧kM cs=s∧0<s∧cs.all SV.one=true∧te.size=s∧te.bytes≤140737488355328 then
      some {val:= .vv nv,rd:=[j'],iD:= .own (.cC true nv t s (.lit 1) aS)}
     else none
    | none=>none
   | _,_=>none
  | _,_=>none
 | _,_=>none
def Ah(x:SV)(c:Cut)(s:Nat):Option SV:=
 match x with
 | .vv v=>some (.jJ v [c] s)
 | .jJ v cs s'=>if s=s' then some (.jJ v (cs++[c]) s)else none
 | _=>none
def Aj(T:List TI)(hp:List Ck)(k:TK)(x:SV)(lo hi mx:Option E):Option iC:=
 if mx.isSome&&hi.isNone then none else
 match k,x with
 | .slice e,.sl b i s n m=>
  match aU T e with
  | some te=>
   if te.size=s then
    let l:=lo.getD (.lit 0)
    let h:=hi.getD n
    let mm:=mx.getD m
    some {val:= .sl b (dP i l) s (tU h l) (tU mm l),vcs:=eG (.lit 0) i++eG (.lit 0) l++eG l h++eG h mm++eG mm m++eG (.lit 0) n++(if l= .lit 0 then []else [IB l mm].filter fun b=>b != .lit true)}
   else none
  | none=>none
 | .slice e,.bx=>
  match aU T e with
  | some _=>if lo.getD (.lit 0)= .lit 0∧hi.getD (.lit 0)= .lit 0∧mx.getD (.lit 0)= .lit 0 then some {val:= .bx}else none
  | none=>none
 | .slice e,x=>
  match aU T e,ic hp x with
  | some te,some r=>
   if te.size=r.s then
    let c:Cut:=⟨lo.getD (.lit 0),hi.getD r.p.len,mx⟩
    match Ah x c r.s with
    | some v=>some {val:=v,vcs:=r.vcs++(oh r.n r.p c).2,rd:=[r.j]}
    | none=>none
   else none
  | _,_=>none
 | .arr n e,.pv v i s c=>
  match aU T e,eK hp v,lo,hi,mx with
  | some _,some (j,.cC _ _ _ _ m _),none,none,none=>some {val:= .PG v i s c n,vcs:=iZ i m,rd:=[j]}
  | _,_,_,_,_=>none
 | .arr n e,.ptr b c=>
  match aU T e with
  | some te=>
   if te.size≠0∧c%te.size=0 then
    let l:=lo.getD (.lit 0)
    let h:=hi.getD (.lit n)
    let mm:=mx.getD (.lit n)
    some {val:= .sl b (dP (.lit (c/te.size:Nat)) l) te.size (tU h l) (tU mm l),vcs:=eG (.lit 0) l++eG l h++eG h mm++eG mm (.lit n)++(if l= .lit 0 then []else [IB l mm].filter fun b=>b != .lit true)}
   else none
  | none=>none
 | _,_=>none
def HL(lo:E)(c:bP):Option bP:=
 match c.ck with
 | .val _=>if lo= .lit 0 then some c else none
 | .Ic _=>if lo= .lit 0 then some c else none
 | .pt _ _=>if lo= .lit 0 then some c else none
 | .str=>if lo= .lit 0 then some c else none
 | _=>some {c with a:=lA c.a (rB lo (.lit c.w))}
def jz(lo:E):List bP→Option (List bP)
 | []=>some []
 | c::r=>match HL lo c,jz lo r with
  | some a,some b=>some (a::b)
  | _,_=>none
def J_(at_ m:E)(d s:bP):Option bP:=
 if d.w≠s.w then none else
 match d.ck,s.ck with
 | .int k,.int k'=>if k=k' then some {d with a:= .jI d.a (rB at_ (.lit d.w)) (rB m (.lit d.w)) s.a}else none
 | .bool,.bool=>some {d with a:= .jI d.a (rB at_ (.lit d.w)) (rB m (.lit d.w)) s.a}
 | .ptr,.ptr=>some {d with a:= .jI d.a (rB at_ (.lit d.w)) (rB m (.lit d.w)) s.a}
 | .bx,.bx=>some d
 | .str,.str=>if m= .lit 1∧d.w=1 then some {d with a:= .ry d.a at_ (DE s.a (.lit 0))}else if m= .lit 0 then some d else none
 | _,_=>none
def jc(at_ m:E):List bP→List bP→Option (List bP)
 | [],[]=>some []
 | d::r,s::r'=>match J_ at_ m d s,jc at_ m r r' with
  | some a,some b=>some (a::b)
  | _,_=>none
 | _,_=>none
structure Src where
 rd:List Nat
 vcs:List BE
 n:E
 aA:List bP
def wq(s:Nat):Nat→Nat→List SV→List bP→Option (List bP)
 | 0,_,_,aA=>some aA
 | k+1,i,cs,aA=>
  match j6 0 s cs,gN s cs with
  | some a,some b=>match lQ (.lit i) a aA with
   | some aS=>wq s k (i+1) b aS
   | none=>none
  | _,_=>none
def Ds(T:List TI)(hp:List Ck)(te:TI)(y:SV):Option Src:=
 match y with
 | .bx=>match xC T 30 te.t with
  | some aA=>if te.size=b_ aA then some ⟨[],[],.lit 0,aA⟩else none
  | none=>none
 | .sl b i s m _=>
  match findAt hp b with
  | some (j,.row _ _ cs)=>
   if s≠te.size then none else
   match eU i,eU m with
   | some i0,some m0=>
    match j6 (i0*s) (m0*s) cs with
    | some [.dg k N a]=>if s=1∧N=m0 then some ⟨[j],[],.lit m0,[⟨.int k,1,a⟩]⟩else none
    | some x=>
     if x.all SV.one then
      match xC T 30 te.t with
      | some aA=>if s=b_ aA then(wq s m0 0 x aA).map fun aS=>⟨[j],[],.lit m0,aS⟩else none
      | none=>none
     else none
    | none=>none
   | _,_=>
    match cs with
    | [.dg k N a]=>if s=1 then some ⟨[j],eG (.lit 0) i++eG (.lit 0) m++eG (dP i m) (.lit N),m,[⟨.int k,1,lA a i⟩]⟩else none
    | _=>none
  | _=>none
 | x=>
  match ic hp x with
  | some r=>
   if r.s=te.size∧r.s=b_ r.aA then
    (jz r.p.lo r.aA).map fun aA=>⟨[r.j],r.vcs++eG (.lit 0) r.p.len,r.p.len,aA⟩
   else none
  | none=>none
def qC(n:E)(bytes:Nat):BE:=xS (rB n (.lit (max 1 bytes:Nat))) (.lit 140737488355328)
def Tj(y:SV)(v:Nat):Bool:=
 match y with
 | .vv v'=>v'==v
 | .jJ v' _ _=>v'==v
 | _=>false
def Xf:SV→Bool
 | .jJ _ [⟨_,hi,some m⟩] _=>hi==m
 | _=>false
def uH(T:List TI)(hp:List Ck)(nv:Nat)(k:TK)(x y:SV):Option iC:=
 match k with
 | .slice t=>
  match aU T t with
  | some te=>
   match Ds T hp te y with
   | some sc=>
    if te.size=0 then none else
    match x with
    | .bx=>some {val:= .vv nv,vcs:=sc.vcs++eG (.lit 0) sc.n++[qC sc.n te.bytes],rd:=sc.rd,iD:= .own (.cC true nv t te.size sc.n sc.aA)}
    | .sl b i s n m=>
     match Ds T hp te (.sl b i s n m),eU sc.n with
     | some x,some (_+1)=>
      if x.n=n∧n=m∧s=te.size then
       (jc n sc.n x.aA sc.aA).map fun aS=>{val:= .vv nv,vcs:=x.vcs++sc.vcs++eG (.lit 0) n++[qC (dP n sc.n) te.bytes],rd:=x.rd++sc.rd,iD:= .own (.cC true nv t te.size (dP n sc.n) aS)}
      else none
     | _,_=>none
    | x=>
     match ic hp x with
     | some r=>
      if r.t=t∧r.s=te.size∧r.s=b_ r.aA∧r.md=true then
       if Tj y r.v&& !Xf x then
        match x,jc (dP r.p.lo r.p.len) sc.n r.aA sc.aA with
        | .jJ v [⟨lo,hi,none⟩] s,some aS=>
         some {val:= .jJ v [⟨lo,dP hi sc.n,none⟩] s,vcs:=r.vcs++sc.vcs++eG (.lit 0) sc.n++eG (dP hi sc.n) r.n,rd:=r.j::sc.rd,iD:= .set r.j (.cC true r.v t r.s r.n aS)}
        | _,_=>none
       else
        match jz r.p.lo r.aA with
        | some rc=>
         match (if r.p.len= .lit 0 then some sc.aA else jc r.p.len sc.n rc sc.aA)with
         | some aS=>
          some {val:= .vv nv,vcs:=r.vcs++sc.vcs++eG (.lit 0) r.p.len++eG (.lit 0) sc.n++[qC (dP r.p.len sc.n) te.bytes],rd:=r.j::sc.rd,iD:= .app r.j (.cC true nv t r.s (dP r.p.len sc.n) aS)}
         | none=>none
        | none=>none
      else none
     | none=>none
   | none=>none
  | none=>none
 | _=>none
def kP:List SV→List bP→Bool
 | [],[]=>true
 | .int k (.lit 0)::r,⟨.int k',w,.lit 0⟩::aA=>k==k'&&w==1&&kP r aA
 | .bool (.lit false)::r,⟨.bool,w,.lit 0⟩::aA=>w==1&&kP r aA
 | .dg k n (.lit 0)::r,⟨.int k',w,.lit 0⟩::aA=>k==k'&&w==n&&kP r aA
 | .cu::r,⟨.ptr,w,.lit 0⟩::aA=>w==1&&kP r aA
 | .bx::r,⟨.bx,w,_⟩::aA=>w==1&&kP r aA
 | .str []::r,⟨.str,w,.lit 0⟩::aA=>w==1&&kP r aA
 | _,_=>false
def jm(T:List TI)(te:TI):Option (List bP):=
 match xC T 30 te.t with
 | some aA=>if kP te.zero aA&&b_ aA==te.size&& !(te.size==0)then some aA else none
 | none=>none
def Bw(T:List TI)(hp:List Ck)(k:TK)(x:SV):Option iC:=
 match k,x with
 | .slice _,.bx=>some {val:= .undef}
 | .slice e,x=>
  match aU T e,ic hp x with
  | some te,some r=>
   match jm T te with
   | some z=>
    if r.s=te.size∧r.s=b_ r.aA∧r.md=true then
     (jc r.p.lo r.p.len r.aA z).map fun aS=>{val:= .undef,vcs:=r.vcs++eG (.lit 0) r.p.len,rd:=[r.j],iD:= .set r.j (.cC true r.v r.t r.s r.n aS)}
    else none
   | none=>none
  | _,_=>none
 | _,_=>none
def qD:E→E→E
 | .lit a,.lit b=> .lit (min a b)
 | a,b=>if a=b then a else .bin .iO .i64 a b
def EY(T:List TI)(hp:List Ck)(k:TK)(x y:SV):Option iC:=
 match k with
 | .slice t=>
  match aU T t with
  | some te=>
   match Ds T hp te y with
   | some sc=>
    match x with
    | .sl b i s n _=>
     match findAt hp b with
     | some (j,.row b' true cs)=>
      if s≠te.size∨s=0 then none else
      match cs with
      | [.dg k N a]=>
       match sc.aA with
       | [⟨.int k',1,a'⟩]=>
        if s=1∧k=k' then
         some {val:= .int .i64 (qD sc.n n),vcs:=sc.vcs++eG (.lit 0) sc.n++eG (.lit 0) i++eG (.lit 0) n++eG (dP i n) (.lit N),rd:=j::sc.rd,iD:= .set j (.row b' true [.dg k N (.jI a i (qD sc.n n) a')])}
        else none
       | _=>none
      | _=>
       match eU i,eU n,eU sc.n,sc.aA with
       | some i0,some n0,some m0,[⟨.int k',1,a'⟩]=>
        if s=1 then
         (wO i0 [.dg k' (min m0 n0) a'] cs).map fun ra=>{val:= .int .i64 (.lit (min m0 n0:Nat)),vcs:=sc.vcs,rd:=j::sc.rd,iD:= .set j (.row b' true ra)}
        else none
       | some i0,some n0,none,[⟨.int k',1,a'⟩]=>
        match j6 i0 n0 cs with
        | some [.dg k2 N2 a]=>
         if s=1∧k2=k'∧N2=n0 then
          (wO i0 [.dg k' n0 (.jI a (.lit 0) (qD sc.n (.lit n0)) a')] cs).map fun ra=>{val:= .int .i64 (qD sc.n (.lit n0)),vcs:=sc.vcs++eG (.lit 0) sc.n,rd:=j::sc.rd,iD:= .set j (.row b' true ra)}
         else none
        | _=>none
       | _,_,_,_=>none
     | _=>none
    | x=>
     match ic hp x with
     | some r=>
      if r.t=t∧r.s=te.size∧r.s=b_ r.aA∧r.md=true∧0<r.s then
       (jc r.p.lo (qD sc.n r.p.len) r.aA sc.aA).map fun aS=>
        {val:= .int .i64 (qD sc.n r.p.len),vcs:=r.vcs++sc.vcs++eG (.lit 0) r.p.len++eG (.lit 0) sc.n,rd:=r.j::sc.rd,iD:= .set r.j (.cC true r.v t r.s r.n aS)}
      else none
     | none=>none
   | none=>none
  | none=>none
 | _=>none
def EZ(T:List TI)(nv:Nat)(k:TK)(n c:E):Option iC:=
 match k with
 | .slice t=>
  match aU T t with
  | some te=>
   match jm T te with
   | some z=>some {val:= .vv nv,vcs:=eG (.lit 0) n++eG n c++[qC c te.bytes],iD:= .own (.cC true nv t te.size n z)}
   | none=>none
  | none=>none
 | _=>none
def DR(T:List TI)(hp:List Ck)(nv:Nat)(k:TK)(x:SV)(m:E):Option iC:=
 match k,x with
 | .slice t,.vv v=>
  match aU T t,eK hp v with
  | some te,some (j,.cC true _ t' s n aA)=>
   match jm T te with
   | some z=>
    match jc n m aA z with
    | some aS=>
     if t'=t∧s=te.size∧s=b_ aA then
      some {val:= .vv nv,vcs:=eG (.lit 0) n++eG (.lit 0) m++[qC (dP n m) te.bytes],rd:=[j],iD:= .app j (.cC true nv t s (dP n m) aS)}
     else none
    | none=>none
   | none=>none
  | _,_=>none
 | .slice t,.bx=>
  match aU T t with
  | some te=>
   match jm T te with
   | some z=>
    if te.size=b_ z then
     some {val:= .vv nv,vcs:=eG (.lit 0) m++[qC m te.bytes],iD:= .own (.cC true nv t te.size m z)}
    else none
   | none=>none
  | none=>none
 | _,_=>none
def wW(T:List TI)(hp:List Ck)(nv:Nat)(k:TK)(x y:SV):Option iC:=
 match k,x with
 | .slice t,.sl b i s n m=>
  match aU T t,findAt hp b,eU i,eU n with
  | some te,some (j,.row _ true cs),some 0,some q=>
   match rowOf cs,Ds T hp te y with
   | some (ki::kl,a),some sc=>
    if n=m∧s=1∧te.size=1∧kl.length+1=q∧ki::kl=List.replicate q ki then
     (jc (.lit q) sc.n [⟨.int ki,1,a⟩] sc.aA).map fun aS=>
      {val:= .vv nv,vcs:=sc.vcs++eG (.lit 0) sc.n++[qC (dP (.lit q) sc.n) te.bytes],rd:=j::sc.rd,iD:= .app j (.cC true nv t 1 (dP (.lit q) sc.n) aS)}
    else none
   | _,_=>none
  | _,_,_,_=>none
 | _,_=>none
def zm:List SV→Option (List Nat)
 | []=>some []
 | .vv i::r=>(zm r).map (i:: ·)
 | _=>none
def vz(hp:List Ck):SV→Option (Nat×List Nat)
 | .sl b i _ n _=>
  match findAt hp b,eU i,eU n with
  | some (j,.row _ _ cs),some 0,some q=>
   match zm cs with
   | some l=>if l.length=q then some (j,l)else none
   | none=>none
  | _,_,_=>none
 | _=>none
def wX(T:List TI)(hp:List Ck)(nv:Nat)(k:TK)(x y:SV):Option iC:=
 match k,x with
 | .slice t,.sl b i s n m=>
  match aU T t,vz hp (.sl b i s n m),vz hp y with
  | some te,some (j,l),some (j',l')=>
   if n=m∧te.size=1∧l'.length≠0∧(l.length+l'.length)*te.bytes≤140737488355328∧l.length+l'.length≤140737488355328 then
    some {val:= .vv nv,rd:=[j,j'],iD:= .own (.cC true nv t 1 (.lit (l.length+l'.length:Nat)) [⟨.Ic (l++l'),1,.lit 0⟩])}
   else none
  | _,_,_=>none
 | _,_=>none
def xE(T:List TI)(hp:List Ck)(nv:Nat)(tt:TI)(ts ts':Nat)(x y:SV):Option iC:=
 if ts=ts' then(match xD T hp nv tt.k x y with | some r=>some r | none=>match uH T hp nv tt.k x y with | some r=>some r | none=>match wW T hp nv tt.k x y with | some r=>some r | none=>wX T hp nv tt.k x y)else(match aU T ts',y with
    | some ti,.int _ m=>match ti.k with
     | .int _=>DR T hp nv tt.k x m
     | _=>none
    | _,_=>none)
def Tk(a:E)(i:Nat):Option Int:=
 match eJ a (.lit i)with
 | .lit n=>some n
 | _=>none
def xF(a:E):Nat→Option (List Int)
 | 0=>some []
 | n+1=>match xF a n,Tk a n with
  | some l,some x=>some (l++[x])
  | _,_=>none
def LQ(n:Nat)(a:E):E:=
 match xF a n with
 | some l=> .lit (aW l:Nat)
 | none=> .kc n a
def uI:List iY→Option (List IntKind)
 | []=>some []
 | some k::r=>(uI r).map (k:: ·)
 | none::_=>none
def pL(ti:TI):Option (List IntKind×Bool):=
 match ti.k with
 | .int k=>some ([k],false)
 | .struct _=>if ti.lay.isEmpty then none else(uI (lW ti.lay)).map fun l=>(l,true)
 | .arr .. =>if ti.lay.isEmpty then none else(uI (lW ti.lay)).map fun l=>(l,true)
 | _=>none
def sv(ka:Bool)(k:SV):Option (List SV):=
 match ka,k with
 | true,.agg cs=>some cs
 | false,.int q e=>some [.int q e]
 | _,_=>none
def xG(T:List TI)(te:TI):Option (List bP):=
 if te.size=0 then(if te.zero.isEmpty&&te.k.agg then some []else none)else jm T te
def eM:List SV→List SV→Bool
 | [],[]=>true
 | .int k (.lit n)::r,.int k' (.lit m)::s=>k==k'&&n==m&&eM r s
 | .bool (.lit a)::r,.bool (.lit b)::s=>a==b&&eM r s
 | .dg k n (.lit a)::r,.dg k' n' (.lit b)::s=>k==k'&&n==n'&&a==b&&eM r s
 | .cu::r,.cu::s=>eM r s
 | .bx::r,.bx::s=>eM r s
 | .kD::r,.kD::s=>eM r s
 | .pf::r,.pf::s=>eM r s
 | .nT::r,.nT::s=>eM r s
 | .str l::r,.str l'::s=>l==l'&&eM r s
 | _,_=>false
def TK.isSlice:TK→Bool
 | .slice _=>true
 | _=>false
def uJ(T:List TI)(nb t:Nat):Option iC:=
 match aU T t with
 | some {k:= .map kt vt,.. }=>
  match aU T kt,aU T vt with
  | some tk,some tv=>
   match pL tk,(if tv.k.isSlice then none else xG T tv)with
   | some (kl,ka),some aA=>some {val:= .mp nb,iD:= .new (.map nb kl ka tv.k.agg tv.zero (.lit 0) aA)}
   | some (kl,ka),none=>some {val:= .mp nb,iD:= .new (.vn nb kl ka tv.k.agg tv.zero [])}
   | _,_=>none
  | _,_=>none
 | _=>none
def xH(T:List TI)(hp:List Ck)(t:Nat)(x k:SV)(comma:Bool):Option iC:=
 match aU T t with
 | some {k:= .map kt vt,.. }=>
  match aU T kt,aU T vt with
  | some tk,some tv=>
   match pL tk with
   | some (kl,ka)=>
    match sv ka k with
    | some kc=>
     match rowOf kc with
     | some (Ka,a)=>
      if Ka≠kl then none else
      match x with
      | .nT=>(jt tv.k.agg tv.zero).map fun v=>{val:=if comma then .oL [v,.bool (.lit false)]else v}
      | .mp b=>
       match mX hp b with
       | some (j,.map _ mY zd zD Dt has aA)=>
        if mY=kl∧zd=ka∧zD=tv.k.agg∧eM Dt tv.zero=true then
         match po (LQ kl.length a) aA with
         | some es=>(jt tv.k.agg es).map fun v=>{val:=if comma then .oL [v,.bool (Uu (eJ has (LQ kl.length a)))]else v,rd:=[j]}
         | none=>none
        else none
       | some (j,.vn _ mY zd zD Dt es)=>
        if mY=kl∧zd=ka∧zD=tv.k.agg∧eM Dt tv.zero=true then
         match LQ kl.length a with
         | .lit n=>(jt tv.k.agg (nX es Dt n.toNat)).map fun v=>{val:=if comma then .oL [v,.bool (.lit (rJ es n.toNat))]else v,rd:=[j]}
         | _=>none
        else none
       | _=>none
      | _=>none
     | none=>none
    | none=>none
   | none=>none
  | _,_=>none
 | _=>none
def Bx:SV→Bool
 | .agg _=>true
 | .dg .. =>true
 | _=>false
def sV(T:List TI)(hp:List Ck)(t:Nat)(x k v:SV):Option iC:=
 match aU T t with
 | some {k:= .map kt vt,.. }=>
  match aU T kt,aU T vt with
  | some tk,some tv=>
   match pL tk with
   | some (kl,ka)=>
    match sv ka k,fk v with
    | some kc,some vs=>
     match rowOf kc,x with
     | some (Ka,a),.mp b=>
      match mX hp b with
      | some (j,.map b' mY zd zD zero has aA)=>
       if Ka=kl∧mY=kl∧zd=ka∧zD=tv.k.agg∧kM vs=b_ aA∧Bx v=tv.k.agg then
        match lQ (LQ kl.length a) vs aA with
        | some aS=>some {val:= .undef,rd:=[j],iD:= .set j (.map b' kl ka zD zero (.nm (.nm has (.lit 0) (tU (dP (eJ has (.lit 0)) (.lit 1)) (tY .iO .i64 (eJ has (LQ kl.length a)) (.lit 1)))) (LQ kl.length a) (.lit 1)) aS)}
        | none=>none
       else none
      | some (j,.vn b' mY zd zD zero es)=>
       if Ka=kl∧mY=kl∧zd=ka∧zD=tv.k.agg∧Bx v=tv.k.agg then
        match LQ kl.length a with
        | .lit n=>some {val:= .undef,rd:=[j],iD:= .set j (.vn b' kl ka zD zero (je n.toNat vs es))}
        | _=>none
       else none
      | _=>none
     | _,_=>none
    | _,_=>none
   | none=>none
  | _,_=>none
 | _=>none
def By(T:List TI)(hp:List Ck)(t:Nat)(x k:SV):Option iC:=
 match aU T t with
 | some {k:= .map kt vt,.. }=>
  match aU T kt,aU T vt with
  | some tk,some tv=>
   match pL tk with
   | some (kl,ka)=>
    match sv ka k with
    | some kc=>
     match rowOf kc,x with
     | some (Ka,a),.mp b=>
      match mX hp b with
      | some (j,.map b' mY zd zD zero has aA)=>
       if Ka=kl∧mY=kl∧zd=ka∧zD=tv.k.agg∧kl≠[]∧eM zero tv.zero=true then
        (jt tv.k.agg tv.zero).map fun z=>{val:= .oL [z,.int .i64 (eJ has (.lit 0))],vcs:=[TO (eJ has (LQ kl.length a)) (.lit 0)],rd:=[j],iD:= .set j (.map b' kl ka zD zero (.nm (.nm has (.lit 0) (dP (eJ has (.lit 0)) (.lit 1))) (LQ kl.length a) (dP (eJ has (.lit 0)) (.lit 2))) aA)}
       else none
      | _=>none
     | _,_=>none
    | none=>none
   | none=>none
  | _,_=>none
 | _=>none
def Bz(hp:List Ck)(x s v:SV):Option iC:=
 match x,s,fk v with
 | .mp b,.int .i64 e,some vs=>
  match mX hp b with
  | some (j,.map b' kl ka va zero (.nm h (.kc n a) y) aA)=>
   if n=kl.length∧kM vs=b_ aA∧Bx v=va then
    match lQ (.kc n a) vs aA with
    | some aS=>some {val:= .undef,vcs:=[xS (.lit 0) e,TO (eJ (.nm h (.kc n a) y) (.kc n a)) (dP e (.lit 2))],rd:=[j],iD:= .set j (.map b' kl ka va zero (.nm h (.kc n a) y) aS)}
    | none=>none
   else none
  | _=>none
 | _,_,_=>none
def bytesOf(T:List TI)(nv:Nat)(k:TK)(v:SV):Option iC:=
 match k with
 | .slice e=>
  match aU T e,rC v with
  | some te,some s=>if te.k= .int .u8∧te.size=1 then some {val:= .vv nv,vcs:=[xS (.lit 0) (lU s)].filter (fun b=>b != .lit true),iD:= .FZ (.cC false nv e 1 (lU s) [⟨.int .u8,1,Mo s⟩])}else none
  | _,_=>none
 | _=>none
def BA(T:List TI)(nv:Nat)(k:TK)(l:List UInt8):Option iC:=
 match k with
 | .slice e=>
  match aU T e with
  | some te=>if te.k= .int .u8∧te.size=1∧l.length≤1000 then some {val:= .vv nv,iD:= .own (.cC true nv e 1 (.lit l.length) [⟨.int .u8,1,.qV (l.map fun b=>(b.toNat:Int))⟩])}else none
  | none=>none
 | _=>none
def sW(a n:E):E:=
 match eU n with
 | some k=>match xF a k with
  | some l=> .qV ((k:Int)::l)
  | none=>tX a n
 | none=>tX a n
def E0(hp:List Ck):SV→Option iC
 | .bx=>some {val:= .str []}
 | .sl b i 1 n _=>
  match findAt hp b,eU i,eU n with
  | some (j,.row _ _ cs),some i,some n=>
   match j6 i n cs with
   | some xs=>
    match rowOf xs with
    | some (kl,a)=>if kl=List.replicate n .u8 then some {val:=mkStr (sW a (.lit n)),rd:=[j]}else none
    | none=>none
   | none=>none
  | some (j,.row _ _ [.dg .u8 m a]),some 0,none=>some {val:=mkStr (sW a n),vcs:=[xS n (.lit m)].filter (fun b=>b != .lit true),rd:=[j]}
  | _,_,_=>none
 | .vv v=>
  match eK hp v with
  | some (j,.cC _ _ _ 1 n [⟨.int .u8,1,a⟩])=>some {val:=mkStr (sW a n),rd:=[j]}
  | _=>none
 | .jJ v cs s=>
  match ic hp (.jJ v cs s)with
  | some r=>match jz r.p.lo r.aA with
   | some [⟨.int .u8,1,a⟩]=>if r.s=1∧r.s=b_ r.aA then some {val:=mkStr (sW a r.p.len),vcs:=r.vcs++eG (.lit 0) r.p.len,rd:=[r.j]}else none
   | _=>none
  | none=>none
 | _=>none
def pM(T:List TI)(hp:List Ck)(src:TypeId)(v:SV):Option iC:=
 match aU T src with
 | some ts=>
  match ts.k with
  | .slice e=>
   match aU T e with
   | some te=>if te.k= .int .u8 then E0 hp v else none
   | none=>none
  | _=>none
 | none=>none
def BB(hp:List Ck)(ti:TI)(op:BinOp)(a b:SV):Option iC:=
 match ti.k,a,b with
 | .slice _,.vv i,.bx=>
  match eK hp i with
  | some (j,.cC ..)=>
   match op with
   | .eql=>some {val:= .bool (.DA i),rd:=[j]}
   | .neq=>some {val:= .bool (j5 (.DA i)),rd:=[j]}
   | _=>none
  | _=>none
 | _,_,_=>none
def BC(ti:TI)(op:BinOp)(y:Operand)(a:SV):Option iC:=
 match ti.k,y,a with
 | .iface,.const .nilIface,.pf=>
  match op with
  | .eql=>some {val:= .bool (.lit true)}
  | .neq=>some {val:= .bool (.lit false)}
  | _=>none
 | .iface,.const .nilIface,.PF .. =>
  match op with
  | .eql=>some {val:= .bool (.lit false)}
  | .neq=>some {val:= .bool (.lit true)}
  | _=>none
 | .iface,.const .nilIface,.Uo .. =>
  match op with
  | .eql=>some {val:= .bool (.lit false)}
  | .neq=>some {val:= .bool (.lit true)}
  | _=>none
 | .iface,.const .nilIface,.Ix c _=>
  match op with
  | .eql=>some {val:= .bool (j5 c)}
  | .neq=>some {val:= .bool c}
  | _=>none
 | _,_,_=>none
def Ag(look:Nat→Option SV):Option Operand→Option (Option E)
 | none=>some none
 | some o=>match j8 look o with
  | some (.int _ e)=>some (some e)
  | _=>none
def Ck.afu(b:Nat):Ck→Bool
 | .O0 b' _ _=>b==b'
 | _=>false
def LR(hp:List Ck):SV→Option iC
 | .ptr b 0=>
  match hp.findIdx? (Ck.afu b)with
  | some j=>match hp[j]? with
   | some (.O0 b' l pos)=>
    if b=b' then
     match l[pos]? with
     | some c=>if c.toNat<128 then some {val:= .oL [.bool (.lit true),.int .i64 (.lit pos),.int .i32 (.lit c.toNat)],rd:=[j],iD:= .set j (.O0 b' l (pos+1))}else none
     | none=>some {val:= .oL [.bool (.lit false)],rd:=[j]}
    else none
   | _=>none
  | none=>none
 | _=>none
def rangeMap(hp:List Ck)(nb:Nat)(k:TK)(m:Nat):Option iC:=
 match k with
 | .map _ _=>
  match mX hp m with
  | some (j,.map ..)=>some {val:= .ptr nb 0,rd:=[j],iD:= .new (.P4 nb m)}
  | _=>none
 | _=>none
def Ck.afv(b:Nat):Ck→Bool
 | .P4 b' _=>b==b'
 | _=>false
def LS(hp:List Ck):SV→Option iC
 | .ptr b 0=>
  match hp.findIdx? (Ck.afv b)with
  | some j=>match hp[j]? with
   | some (.P4 b' m)=>
    if b=b' then
     match mX hp m with
     | some (i,.map _ _ _ _ _ has _)=>if eU (eJ has (.lit 0))=some 0 then some {val:= .oL [.bool (.lit false)],rd:=[j,i]}else none
     | _=>none
    else none
   | _=>none
  | none=>none
 | _=>none
def eg(T:List TI)(look:Nat→Option SV)(hp:List Ck)(nb nv:Nat)(o:Oper):Option iC:=
 let ev:=j8 look
 match o.op with
 | .move x | .assign x=>(ev x).map fun v=>{val:=v}
 | .pick c a b=>
  match ev c,ev a,ev b with
  | some (.bool c),some a,some b=>(EX c a b).map fun v=>{val:=v}
  | _,_,_=>none
 | .alloc t=>(aU T t).bind fun ti=>match ti.k with
  | .KA _ e=>if eM ti.zero [.cu,.bx]then some {val:= .ptr nb 0,iD:= .new (.KA nb t e (.lit 0) (.lit 0))}else none
  | _=>some {val:= .ptr nb 0,iD:= .new (.row nb true ti.zero)}
 | .box _ x=>
  match ev x with
  | some v=>(fk v).map fun cs=>{val:= .ptr nb 0,iD:= .new (.row nb true cs)}
  | none=>none
 | .build t parts=>
  match aU T t,partsOf look parts.toList with
  | some ti,some ps=>
   match ti.k with
   | .struct fs=>if rK T fs then(lR (jh T fs) ti.zero ps).map fun cs=>{val:= .agg cs}else none
   | .arr _ e=>
    match aU T e with
    | some te=>(lR (lE te.size) ti.zero ps).map fun cs=>{val:= .agg cs}
    | none=>none
   | _=>none
  | _,_=>none
 | .buildSlice t len parts=>
  match aU T t,partsOf look parts.toList with
  | some ti,some ps=>
   match ti.k with
   | .slice e=>
    match aU T e with
    | some te=>if len=0 then(if ps.isEmpty then(jm T te).map fun z=>{val:= .vv nv,iD:= .own (.cC true nv e te.size (.lit 0) z)}else none)else if te.size=0∨1000<len*te.size then none else(lR (lE te.size) (List.replicate len te.zero).flatten ps).map fun cs=>{val:= .sl nb (.lit 0) te.size (.lit len) (.lit len),iD:= .new (.row nb true cs)}
    | none=>none
   | _=>none
  | _,_=>none
 | .load t x=>
  match aU T t,ev x with
  | some ti,some a=>zj hp ti.k.agg ti.size a
  | _,_=>none
 | .store t x y=>
  match aU T t,ev x,ev y with
  | some ti,some a,some v=>zZ hp ti.size v a
  | _,_,_=>none
 | .nilCheck x=>
  match ev x with
  | some (.ptr b c)=>some {val:= .ptr b c}
  | some (.qX b i s c)=>some {val:= .qX b i s c}
  | some (.jE e)=>some {val:= .jE e,vcs:=[Uu e]}
  | some (.pv v i s c)=>match eK hp v with
   | some (j,.cC _ _ _ _ n _)=>some {val:= .pv v i s c,vcs:=iZ i n,rd:=[j]}
   | _=>none
  | some (.fn f cs)=>some {val:= .fn f cs}
  | _=>none
 | .binOp op t x y _=>
  match aU T t,ev x,ev y with
  | some ti,some a,some b=>match BC ti op y a with
   | some r=>some r
   | none=>match BB hp ti op a b with
   | some r=>some r
   | none=>oO ti op a b
  | _,_,_=>none
 | .unOp op _ x=>
  match op,ev x with
  | .not,some (.bool b)=>some {val:= .bool (j5 b)}
  | .xor,some (.int k a)=>some {val:= .int k (tY .cz k (.lit (if wo k then -1 else IntKind.hi k)) a)}
  | .neg,some (.int k a)=>some {val:= .int k (z9 k (tU (.lit 0) a)).1,vcs:=(z9 k (tU (.lit 0) a)).2}
  | _,_=>none
 | .convert src dst x=>
  match aU T src,aU T dst,ev x with
  | some _,some ti,some (.int _ a)=>
   match ti.k with
   | .int k=>some {val:= .int k (z_ k a).1,vcs:=(z_ k a).2}
   | _=>none
  | some ts,some ti,some (.str l)=>if ts.k= .str then BA T nv ti.k l else none
  | some ts,some ti,some (.mu s)=>if ts.k= .str then bytesOf T nv ti.k (.mu s)else none
  | some _,some ti,some (.sl b i s n m)=>
   match ti.k with
   | .slice e=>
    match aU T e,findAt hp b with
    | some te,some (j,.row b' true cs)=>if src=dst∧te.k= .int .u8 then some {val:= .sl b i s n m,rd:=[j],iD:= .set j (.row b' false cs)}else none
    | _,_=>none
   | .str=>pM T hp src (.sl b i s n m)
   | _=>none
  | some _,some ti,some (.vv v)=>if ti.k= .str then pM T hp src (.vv v)else none
  | some _,some ti,some (.jJ v cs s)=>if ti.k= .str then pM T hp src (.jJ v cs s)else none
  | some _,some ti,some .bx=>if ti.k= .str then pM T hp src .bx else none
  | _,_,_=>none
 | .makeInterface t x=>
  match aU T t,ev x with
  | some ti,some (.int k e)=>if ti.k= .int k then some {val:= .PF t k e}else none
  | some ti,some (.ptr b c)=>match ti.k with
   | .ptr _=>some {val:= .Uo t b c}
   | _=>none
  | _,_=>none
 | .sliceToArrayPointer arr x=>
  match aU T arr,ev x with
  | some ta,some v=>
   match ta.k with
   | .arr n e=>
    match aU T e with
    | some _=>
     if n=0 then none else
     match v with
     | .sl b i s m _=>some {val:=F1 b i s 0,vcs:=eG (.lit n) m}
     | v=>
      match ic hp v with
      | some r=>some {val:= .pv r.v r.p.lo r.s 0,vcs:=r.vcs++eG (.lit n) r.p.len,rd:=[r.j]}
      | none=>none
    | none=>none
   | _=>none
  | _,_=>none
 | .fieldAddr s x f=>
  match aU T s,ev x with
  | some ts,some a=>
   match ts.k with
   | .struct fs=>
    match fs[f]? with
    | some (t,off)=>
     match aU T t with
     | some ti=>if ti.size=0 then none else
      match a with
      | .ptr b c=>some {val:= .ptr b (c+off)}
      | .qX b i s c=>some {val:= .qX b i s (c+off)}
      | .pv v i s c=>
       match eK hp v with
       | some (j,.cC _ _ _ _ n _)=>some {val:= .pv v i s (c+off),vcs:=iZ i n,rd:=[j]}
       | _=>none
      | _=>none
     | none=>none
    | none=>none
   | _=>none
  | _,_=>none
 | .field s x f=>
  match aU T s,ev x with
  | some ts,some (.agg cs)=>
   match ts.k with
   | .struct fs=>
    match fs[f]? with
    | some (t,off)=>
     match aU T t with
     | some ti=>
      match j6 off ti.size cs with
      | some x=>(jt ti.k.agg x).map fun v=>{val:=v}
      | none=>none
     | none=>none
    | none=>none
   | _=>none
  | _,_=>none
 | .indexAddr t x y=>
  match aU T t,ev x,ev y with
  | some tt,some a,some (.int _ j)=>
   match tt.k with
   | .slice e=>
    match aU T e with
    | some te=>
     match a with
     | .sl b i s n _=>if te.size=s then some {val:=F1 b (dP i j) s 0,vcs:=p6 i++iZ j n}else none
     | a=>
      match ic hp a with
      | some r=>if te.size=r.s then some {val:= .pv r.v (dP r.p.lo j) r.s 0,vcs:=r.vcs++iZ j r.p.len,rd:=[r.j]}else none
      | none=>none
    | none=>none
   | .arr n e=>
    match aU T e with
    | some te=>
     match a with
     | .ptr b c=>some {val:=F1 b j te.size c,vcs:=iZ j (.lit n)}
     | _=>none
    | none=>none
   | _=>none
  | _,_,_=>none
 | .index t x y=>
  match aU T t,ev x,ev y with
  | some tt,some (.agg cs),some (.int _ j)=>
   match tt.k with
   | .arr n e=>
    match aU T e with
    | some te=>
     match eU j with
     | some l=>if l<n then(match j6 (l*te.size) te.size cs with
      | some x=>(jt te.k.agg x).map fun v=>{val:=v}
      | none=>none)else none
     | none=>
      match cs with
      | [.dg k m a]=>if m=n∧te.size=1∧te.k.agg=false then some {val:= .int k (eJ a j),vcs:=iZ j (.lit n)}else none
      | _=>none
    | none=>none
   | _=>none
  | some tt,some v,some (.int _ j)=>if tt.k= .str then J8 v j else none
  | _,_,_=>none
 | .extract x i=>
  match ev x with
  | some (.oL vs)=>(vs[i]?).map fun v=>{val:=v}
  | _=>none
 | .makeFunc fn first jq=>
  match fn,first.toList with
  | .func f,[]=>(j9 (jq.toList.map ev)).map fun cs=>{val:= .fn f cs}
  | .func f,x::r=>if jq.isEmpty then(j9 ((x::r).map ev)).map fun cs=>{val:= .fm f cs}else none
  | _,_=>none
 | .call c=>
  match c.callee,c.args.toList,c.argTypes.toList with
  | .builtin .len,[x],[t]=>
   match aU T t,ev x with
   | some tt,some v=>J9 hp tt.k v
   | _,_=>none
  | .builtin .cap,[x],[t]=>
   match aU T t,ev x with
   | some tt,some .bx=>match tt.k with
    | .slice _=>some {val:= .int .i64 (.lit 0)}
    | _=>none
   | _,_=>none
  | .builtin .max,[x,y],_=>
   match ev x,ev y with
   | some (.int k a),some (.int _ b)=>some {val:= .int k (tY .imax k a b)}
   | _,_=>none
  | .builtin .min,[x,y],_=>
   match ev x,ev y with
   | some (.int k a),some (.int _ b)=>some {val:= .int k (tY .iO k a b)}
   | _,_=>none
  | .builtin .append,[x,y],[ts,ts']=>
   match aU T ts,ev x,ev y with
   | some tt,some x,some y=>xE T hp nv tt ts ts' x y
   | _,_,_=>none
  | .builtin .clear,[x],[t]=>
   match aU T t,ev x with
   | some tt,some v=>Bw T hp tt.k v
   | _,_=>none
  | .builtin .copy,[x,y],[ts,ts']=>
   match aU T ts,ev x,ev y with
   | some tt,some x,some y=>if ts=ts' then EY T hp tt.k x y else none
   | _,_,_=>none
  | _,_,_=>none
 | .slice t x lo hi mx=>
  match aU T t,ev x,Ag look lo,Ag look hi,Ag look mx with
  | some tt,some v,some l,some h,some m=>if tt.k= .str then(if m.isSome then none else Bv v l h)else Aj T hp tt.k v l h m
  | _,_,_,_,_=>none
 | .makeMap t none=>uJ T nb t
 | .lookup t x k comma=>
  match ev x,ev k with
  | some x,some k=>xH T hp t x k comma
  | _,_=>none
 | .mapUpdate t x k v=>
  match ev x,ev k,ev v with
  | some x,some k,some v=>sV T hp t x k v
  | _,_,_=>none
 | .mapEntry t x k=>
  match ev x,ev k with
  | some x,some k=>By T hp t x k
  | _,_=>none
 | .entryStore _ x s v=>
  match ev x,ev s,ev v with
  | some x,some s,some v=>Bz hp x s v
  | _,_,_=>none
 | .insert t x k v=>
  match ev x,ev k,ev v with
  | some x,some k,some v=>sV T hp t x k v
  | _,_,_=>none
 | .makeSlice t n c=>
  match aU T t,ev n,ev c with
  | some tt,some (.int _ n),some (.int _ c)=>EZ T nv tt.k n c
  | _,_,_=>none
 | .range t x=>
  match aU T t,ev x with
  | some ti,some (.str l)=>if ti.k= .str then some {val:= .ptr nb 0,iD:= .new (.O0 nb l 0)}else none
  | some ti,some (.mp m)=>rangeMap hp nb ti.k m
  | _,_=>none
 | .next x true=>(ev x).bind (LR hp)
 | .next x false=>(ev x).bind (LS hp)
 | _=>none
end Go.RX
