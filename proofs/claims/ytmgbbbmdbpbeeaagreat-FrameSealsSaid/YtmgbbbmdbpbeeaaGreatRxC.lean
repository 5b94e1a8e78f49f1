/- Executor. -/
import Derived.Test.YtmgbbbmdbpbeeaaGreatM00
namespace Go.RX
inductive CK where
 | int (k:IntKind) | bool | val (i:Nat) | ptr | b_ | str | cv | Ba (l:List Nat)
 deriving DecidableEq,Repr
structure bV where
 ck:CK
 w:Nat
 a:E
 deriving DecidableEq,Repr
inductive Jump where
 | none | ret | exit (id:Nat)
 deriving DecidableEq,Repr
def Jump.code:Jump→Option Code
 | .none=>Option.none
 | .ret=>some .ret
 | .exit id=>some (.exit id)
inductive RS where
 | ready | busy | done | exhausted
 deriving DecidableEq,Repr
def RS.st:RS→LoopState
 | .ready=> .ready
 | .busy=> .busy
 | .done=> .done
 | .exhausted=> .exhausted
inductive Ck where
 | emp
 | row (b:Nat) (wr:Bool) (cs:List SV)
 | bC (md:Bool) (v t s:Nat) (n:E) (aF:List bV)
 | abs (i:Nat)
 | kr (l r:Nat) (s:RS) (j:Jump)
 | J1 (b:Nat)
 | qy (b:Nat)
 | map (b:Nat) (kl:List IntKind) (ka va:Bool) (zero:List SV) (has:E) (aF:List bV)
 | sq (b:Nat) (kl:List IntKind) (ka va:Bool) (zero:List SV) (es:List (Nat×List SV))
 | HR (b t e:Nat) (n a:E)
 | RQ (b:Nat) (l:List UInt8) (pos:Nat)
 deriving Repr,Inhabited
def aO(k:IntKind)(w:Nat)(f:Nat→Int)(i:Nat):List Value:=al k w fun j=>f (i*w+j)
def zf(w:Nat)(f:Nat→Int)(i:Nat):List Value:=(List.range w).map fun j=> .bool (!(f (i*w+j)==0))
def ic(w:Nat)(f:Nat→Value)(i:Nat):List Value:=(List.range w).map fun j=>f (i*w+j)
def xn(w:Nat)(f:Nat→Int)(i:Nat):List Value:=(List.range w).map fun j=>mU (f (i*w+j))
def bV.cells(ρ:Env)(c:bV):Nat→List Value:=
 match c.ck with
 | .int k=>aO k c.w (c.a.den ρ)
 | .bool=>zf c.w (c.a.den ρ)
 | .val v=>ic c.w fun j=>((ρ.va.getD v fun _=>V1.nil) j).v
 | .ptr=>xn c.w (c.a.den ρ)
 | .b_=>ic c.w fun _=> .slice none 0 0
 | .str=>ic c.w fun j=> .string ⟨(cj (oI (c.a.den ρ) j)).toArray⟩
 | .cv=>ic c.w fun j=>Bf (c.a.den ρ j)
 | .Ba l=>ic c.w fun j=>((l[j]?).elim V1.nil fun n=>ρ.vv.getD n V1.nil).v
def aQ(n:Nat)(cs:List (Nat→List Value)):List Value:=(List.range n).flatMap fun i=>cs.flatMap fun c=>c i
def aM(ρ:Env)(n:Nat)(aF:List bV):List Value:=aQ n (aF.map (bV.cells ρ))
def mr(es:List (Nat×List SV))(zero:List SV)(k:Nat):List SV:=
 match es with
 | []=>zero
 | (i,v)::r=>if i=k then v else mr r zero k
def pj(es:List (Nat×List SV))(k:Nat):Bool:=
 match es with
 | []=>false
 | (i,_)::r=>if i=k then true else pj r k
def zk(k:Nat)(v:List SV):List (Nat×List SV)→List (Nat×List SV)
 | []=>[(k,v)]
 | (i,u)::r=>if i=k then(k,v)::r else(i,u)::zk k v r
def lD(es:List (Nat×List Value))(zero:List Value)(k:Nat):List Value:=
 match es with
 | []=>zero
 | (i,v)::r=>if i=k then v else lD r zero k
def Cs(ρ:Env)(es:List (Nat×List SV)):List (Nat×List Value):=
 match es with
 | []=>[]
 | (i,v)::r=>(i,SV.aC ρ v)::Cs ρ r
theorem IY(ρ:Env)(zero:List SV)(k:Nat): ∀es:List (Nat×List SV),lD (Cs ρ es) (SV.aC ρ zero) k=SV.aC ρ (mr es zero k)
 | []=>rfl
 | (i,v)::r=>by simp only [Cs,lD,mr];split<;>first | rfl | exact IY ρ zero k r
def gW:Loop:=⟨.ready,none,0,#[],#[],.skip,.skip,0⟩
noncomputable def Ck.den(ρ:Env):Ck→HP
 | .emp=>HP.emp
 | .row b wr cs=>ax (ρ.bv.getD b 0) wr (SV.aC ρ cs)
 | .bC md v t s n aF=>aE md t s (ρ.vv.getD v V1.nil).v (n.den ρ 0).toNat (aM ρ (n.den ρ 0).toNat aF)
 | .abs i=>ρ.pv.getD i HP.emp
 | .kr l r s j=>L8 (ρ.bv.getD l 0) {ρ.lr.getD r gW with state:=s.st,pending:=j.code}
 | .J1 b=>xe (ρ.bv.getD b 0)
 | .qy b=>kj (o5 (ρ.bv.getD b 0))
 | .map b kl ka va zero has aF=>uI (ρ.bv.getD b 0) kl ka va (SV.aC ρ zero) (fun i=> !(has.den ρ i==0)) fun i=>(aF.map (bV.cells ρ)).flatMap fun c=>c i
 | .sq b kl ka va zero es=>uI (ρ.bv.getD b 0) kl ka va (SV.aC ρ zero) (fun i=>pj es i) fun i=>lD (Cs ρ es) (SV.aC ρ zero) i
 | .HR b t e n a=>RJ (ρ.bv.getD b 0) t e (al .u8 (n.den ρ 0).toNat (a.den ρ))
 | .RQ b l pos=>RI (ρ.bv.getD b 0) l pos
theorem Ck.jX(ρ:Env)(b:Nat)(kl:List IntKind)(ka va:Bool)(zero:List SV)(es:List (Nat×List SV)):
  Ck.den ρ (.sq b kl ka va zero es)=uI (ρ.bv.getD b 0) kl ka va (SV.aC ρ zero) (fun i=>pj es i) fun i=>SV.aC ρ (mr es zero i):=by
 simp only [Ck.den,IY]
inductive TK where
 | int (k:IntKind) | bool | str | ptr (e:Nat) | slice (e:Nat) | arr (n e:Nat) | struct (fs:List (Nat×Nat)) | map (k e:Nat) | func | iface | HR (fs:List (Nat×Nat)) (e:Nat)
 deriving DecidableEq,Repr
abbrev gb:=Option IntKind
structure TI where
 t:Nat
 k:TK
 size:Nat
 bytes:Nat
 zero:List SV
 lay:List (gb×Nat):=[]
 deriving Repr
def jR:List (gb×Nat)→List gb
 | []=>[]
 | (k,n)::r=>List.replicate n k++jR r
def ph:List SV→List gb→Bool
 | [],[]=>true
 | .int k _::r,some k'::l=>k==k'&&ph r l
 | .bool _::r,none::l=>ph r l
 | .cE k n _::r,l=>decide (n≤l.length)&&(l.take n).all (· ==some k)&&ph r (l.drop n)
 | _,_=>false
def a_(T:List TI)(t:Nat):Option TI:=T.find? fun i=>i.t==t
def TK.agg:TK→Bool
 | .arr .. =>true
 | .struct _=>true
 | .HR .. =>true
 | _=>false
def dB:E→E→E
 | .lit a,.lit b=> .lit (a+b)
 | .lit 0,b=>b
 | a,.lit 0=>a
 | a,b=> .bin .add .i64 a b
def tH:E→E→E
 | .lit a,.lit b=> .lit (a - b)
 | a,.lit 0=>a
 | a,b=> .bin .sub .i64 a b
def o6:E→E→E
 | .lit a,.lit b=> .lit (a*b)
 | .lit 1,b=>b
 | a,.lit 1=>a
 | a,b=> .bin .mul .i64 a b
def jt:E→E→E
 | a,.lit 0=>a
 | .lit n,_=> .lit n
 | a,o=> .shift a o
def E.Ve:E→Bool
 | .lit _=>true
 | .var _=>true
 | .OL .. =>true
 | .bin .. =>true
 | .wrap .. =>true
 | .kc .. =>true
 | .mR _=>true
 | _=>false
def Bh(v:E):E:=if v.Ve then v else .OL v (.lit 0)
def Bi:E→E→E
 | .lit n,_=> .lit n
 | .o4 a (.lit j) s,.lit i=>if i.toNat=j.toNat then s else Bi a (.lit i)
 | .o4 a j s,i=>if i=j then s else .PI (.o4 a j s) i
 | a,i=> .PI a i
def gl:E→E→E
 | .lit n,_=> .lit n
 | .qt l,.lit i=> .lit (l.getD i.toNat 0)
 | .r9 b (.lit j) v,.lit i=>if i.toNat=j.toNat then Bh v else gl b (.lit i)
 | .shift b (.lit o),.lit i=>gl b (.lit (o.toNat+i.toNat:Nat))
 | .tw b (.lit o) (.lit n) x,.lit i=>if o.toNat≤i.toNat∧i.toNat<o.toNat+n.toNat then gl x (.lit (i.toNat - o.toNat:Nat))else gl b (.lit i)
 | .r9 b i v,i'=>if i=i' then Bh v else .OL (.r9 b i v) i'
 | a,i=> .OL a i
def tI(o:Vb)(k:IntKind):E→E→E
 | .lit a,.lit b=> .lit (ak o k a b)
 | a,b=> .bin o k a b
def Mc(k:IntKind):E→E
 | .lit a=> .lit (k.wrap a)
 | a=> .wrap k a
def PN:E→BE
 | .lit n=> .lit (!(n==0))
 | a=> .nz a
def S6:E→E→BE
 | .lit a,.lit b=> .lit (a==b)
 | a,b=>if a=b then .lit true else .eq a b
def F2:E→E→BE
 | .lit a,.lit b=> .lit (decide (a<b))
 | a,b=> .lt a b
def wq:E→E→BE
 | .lit a,.lit b=> .lit (decide (a≤b))
 | a,b=> .le a b
def iZ:BE→BE
 | .lit b=> .lit (!b)
 | .not b=>b
 | b=> .not b
def y_:BE→BE→BE
 | .lit true,b=>b
 | .lit false,_=> .lit false
 | a,.lit true=>a
 | a,b=> .and a b
def Xz:BE→BE→BE
 | .lit false,b=>b
 | .lit true,_=> .lit true
 | a,.lit false=>a
 | a,b=> .or a b
def DD:BE→BE→BE→BE
 | .lit true,a,_=>a
 | .lit false,_,b=>b
 | c,.lit true,b=>Xz c b
 | c,a,.lit false=>y_ c a
 | c,a,b=> .ite c a b
def y9(l:List UInt8):E:= .qt ((l.length:Int)::l.map fun b=>((b.toNat:Nat):Int))
def o7:SV→Option E
 | .str l=>some (y9 l)
 | .kg s=>some s
 | _=>none
def mkStr:E→SV
 | .qt (n::l)=>if(n==(l.length:Int))&&l.all (fun b=>decide (0≤b)&&decide (b<256))then .str (l.map fun b=>UInt8.ofNat b.toNat)else .kg (.qt (n::l))
 | s=> .kg s
def jQ(s:E):E:=gl s (.lit 0)
def JC:E→E
 | .qt (n::l)=>if l.all (fun b=>decide (0≤b)&&decide (b<256))then .qt l else .RF (.qt (n::l))
 | s=> .RF s
def rj(a n:E):E:= .r9 (.tw (.lit 0) (.lit 1) n a) (.lit 0) n
def Aj(s lo hi:E):E:=
 match s with
 | .r9 x (.lit 0) _=> .r9 (jt x lo) (.lit 0) (tH hi lo)
 | s=> .r9 (jt s lo) (.lit 0) (tH hi lo)
def JF(s t:E):E:= .r9 (.tw s (dB (jQ s) (.lit 1)) (jQ t) (jt t (.lit 1))) (.lit 0) (dB (jQ s) (jQ t))
def PM(a b:E):BE:=if a=b then .lit true else .seq a b
mutual
def SV.width:SV→Nat
 | .cE _ n _=>n
 | .agg cs=>SV.nL cs
 | _=>1
def SV.nL:List SV→Nat
 | []=>0
 | v::r=>SV.width v+SV.nL r
end
abbrev jy(cs:List SV):Nat:=SV.nL cs
def fl:Nat→List SV→Option (List SV)
 | 0,cs=>some cs
 | _+1,[]=>some []
 | _+1,.agg _::_=>none
 | d+1,.cE k n a::r=>if d+1<n then some (.cE k (n - (d+1)) (jt a (.lit (d+1:Nat)))::r)else fl (d+1 - n) r
 | d+1,_::r=>fl d r
def gM:Nat→List SV→Option (List SV)
 | 0,_=>some []
 | _+1,[]=>some []
 | _+1,.agg _::_=>none
 | d+1,.cE k n a::r=>if d+1≤n then some [.cE k (d+1) a]else(gM (d+1 - n) r).map (.cE k n a:: ·)
 | d+1,v::r=>(gM d r).map (v:: ·)
def i_(c size:Nat)(cs:List SV):Option (List SV):=
 if c+size≤jy cs then
  match fl c cs with
  | some r=>gM size r
  | none=>none
 else none
def xm(c:Nat)(vs cs:List SV):Option (List SV):=
 if c+jy vs≤jy cs then
  match gM c cs,fl (c+jy vs) cs with
  | some a,some b=>some (a++vs++b)
  | _,_=>none
 else none
def iz(agg:Bool)(cs:List SV):Option SV:=
 if agg then some (.agg cs)else
 match cs with
 | [.cE k 1 a]=>some (.int k (gl a (.lit 0)))
 | [.cE ..]=>none
 | [.agg _]=>none
 | [v]=>some v
 | _=>none
def SV.one:SV→Bool
 | .agg _=>false
 | .opt .. =>false
 | .undef=>false
 | .rR _=>false
 | _=>true
def ez:SV→Option (List SV)
 | .agg cs=>if cs.all SV.one then some cs else none
 | v=>if v.one then some [v]else none
mutual
def ofValue:Value→Option SV
 | .int k n=>some (.int k (.lit n))
 | .bool b=>some (.bool (.lit b))
 | .pointer none=>some .gI
 | .slice none 0 0=>some .b_
 | .nilFunc=>some .lH
 | .nilIface=>some .sd
 | .map none=>some .qu
 | .string ⟨⟨l⟩⟩=>some (.str l)
 | .tuple ⟨[]⟩=>some .undef
 | .agg ⟨l⟩=>(ofValues l).map .agg
 | _=>none
def ofValues:List Value→Option (List SV)
 | []=>some []
 | .agg _::_=>none
 | v::r=>match ofValue v,ofValues r with
  | some x,some xs=>some (x::xs)
  | _,_=>none
end
def iD(look:Nat→Option SV):Operand→Option SV
 | .tmp t=>look t
 | .const v=>ofValue v
 | .global _=>none
 | .func f=>some (.fn f [])
def Ck.qv(b:Nat):Ck→Bool
 | .row b' _ _=>b==b'
 | _=>false
def Ck.lO(v:Nat):Ck→Bool
 | .bC _ v' _ _ _ _=>v==v'
 | _=>false
def findAt(hp:List Ck)(b:Nat):Option (Nat×Ck):=
 match hp.findIdx? (Ck.qv b)with
 | some i=>(hp[i]?).map fun c=>(i,c)
 | none=>none
def dU(hp:List Ck)(v:Nat):Option (Nat×Ck):=
 match hp.findIdx? (Ck.lO v)with
 | some i=>(hp[i]?).map fun c=>(i,c)
 | none=>none
def gN(i n:E):List BE:=
 [wq (.lit 0) i,F2 i n].filter fun b=>b != .lit true
def Yj:E→SV
 | .mR b=> .ptr b 0
 | .lit n=>if n=0 then .gI else .nH (.lit n)
 | e=> .nH e
def fe:E→Option Nat
 | .lit (.ofNat n)=>some n
 | _=>none
def Bk(c:bV)(i:E):Option SV:=
 match c.ck with
 | .int k=>if c.w=1 then some (.int k (gl c.a i))else some (.cE k c.w (jt c.a (o6 i (.lit c.w))))
 | .bool=>if c.w=1 then some (.bool (PN (gl c.a i)))else none
 | .val v=>if c.w=1 then some (.Dw v i)else none
 | .ptr=>if c.w=1 then some (Yj (gl c.a i))else none
 | .b_=>if c.w=1 then some .b_ else none
 | .str=>if c.w=1 then some (mkStr (Bi c.a i))else none
 | .cv=>if c.w=1 then some (.K9 (gl c.a i))else none
 | .Ba l=>match fe i with
  | some k=>match l[k]? with
   | some n=>if c.w=1 then some (.vv n)else none
   | none=>none
  | none=>none
def mZ(i:E):List bV→Option (List SV)
 | []=>some []
 | c::r=>match Bk c i,mZ i r with
  | some x,some xs=>some (x::xs)
  | _,_=>none
def bW(aF:List bV):Nat:=(aF.map bV.w).sum
def Bm(i:E)(v:SV)(c:bV):Option bV:=
 match c.ck,v with
 | .int k,.int k' e=>if c.w=1∧k=k' then some {c with a:= .r9 c.a i e}else none
 | .int k,.cE k' n b=>if c.w=n∧k=k' then some {c with a:= .tw c.a (o6 i (.lit n)) (.lit n) b}else none
 | .bool,.bool (.lit x)=>if c.w=1 then some {c with a:= .r9 c.a i (.lit (if x then 1 else 0))}else none
 | .bool,.bool (.nz e)=>if c.w=1 then some {c with a:= .r9 c.a i e}else none
 | .ptr,.ptr b o=>if c.w=1∧o=0 then some {c with a:= .r9 c.a i (.mR b)}else none
 | .ptr,.gI=>if c.w=1 then some {c with a:= .r9 c.a i (.lit 0)}else none
 | .ptr,.nH e=>if c.w=1 then some {c with a:= .r9 c.a i e}else none
 | .b_,.b_=>if c.w=1 then some c else none
 | .str,.str l=>if c.w=1 then some {c with a:= .o4 c.a i (y9 l)}else none
 | .str,.kg s=>if c.w=1 then some {c with a:= .o4 c.a i s}else none
 | .cv,.K9 e=>if c.w=1 then some {c with a:= .r9 c.a i e}else none
 | .cv,.b_=>if c.w=1 then some {c with a:= .r9 c.a i (.lit 0)}else none
 | _,_=>none
def uL:Nat→E→List SV→Option (List IntKind×E)
 | _,acc,[]=>some ([],acc)
 | o,acc,.int k e::r=>match uL (o+1) (.r9 acc (.lit o) e) r with
  | some (l,a)=>some (k::l,a)
  | none=>none
 | o,acc,.cE k n b::r=>match uL (o+n) (.tw acc (.lit o) (.lit n) b) r with
  | some (l,a)=>some (List.replicate n k++l,a)
  | none=>none
 | _,_,_=>none
def rowOf(cs:List SV):Option (List IntKind×E):=
 match cs with
 | [.cE k n a]=>some (List.replicate n k,a)
 | [.int k e]=>some ([k],e)
 | cs=>uL 0 (.lit 0) cs
def align:List bV→List SV→Option (List SV)
 | _,[]=>some []
 | [],v::r=>some (v::r)
 | c::aF,v::r=>
  if v.width=c.w then(align aF r).map (v:: ·)else
  match c.ck,i_ 0 c.w (v::r),fl c.w (v::r)with
  | .int k,some x,some rest=>
   match rowOf x with
   | some (kl,a)=>if kl=List.replicate c.w k then(align aF rest).map (.cE k c.w a:: ·)else none
   | none=>none
  | _,_,_=>none
def m6(i:E):List SV→List bV→Option (List bV)
 | [],aF=>some aF
 | v::r,c::aF=>match Bm i v c,m6 i r aF with
  | some c',some aZ=>some (c'::aZ)
  | _,_=>none
 | _::_,[]=>none
def kC(i:E)(vs:List SV)(aF:List bV):Option (List bV):=
 match align aF vs with
 | some Fz=>m6 i Fz aF
 | none=>none
def m7(i:E)(vs:List SV):Nat→List bV→Option (List bV)
 | 0,aF=>kC i vs aF
 | _+1,[]=>none
 | o+1,c::r=>if c.w≤o+1 then(m7 i vs (o+1 - c.w) r).map (c:: ·)else none
def HS(c:Nat)(cs:List SV):Option (List SV×IntKind×Nat×E×List SV):=
 if c≤jy cs then
  match fl c cs,gM c cs with
  | some (.cE k n a::r),some pre=>some (pre,k,n,a,r)
  | _,_=>none
 else none
inductive zq where
 | none
 | new (ck:Ck)
 | set (i:Nat) (ck:Ck)
 | app (i:Nat) (ck:Ck)
 | own (ck:Ck)
 | DM (ck:Ck)
 deriving Repr
structure hZ where
 val:SV
 vcs:List BE:=[]
 rd:List Nat:=[]
 hO:zq:= .none
 deriving Repr
def tM(o:BinOp)(x y:SV):Option hZ:=
 match x,y with
 | .str a,.str b=>
  match o with
  | .add=>if a.length+b.length≤1000000 then some {val:= .str (a++b)}else none
  | .eql=>some {val:= .bool (.lit (a==b))}
  | .neq=>some {val:= .bool (.lit (!(a==b)))}
  | _=>none
 | x,y=>
  match o7 x,o7 y with
  | some a,some b=>
   match o with
   | .add=>some {val:= .kg (JF a b),vcs:=IZ (jQ a)++IZ (jQ b)++[wq (dB (jQ a) (jQ b)) (.lit 9223372036854775807)]}
   | .eql=>some {val:= .bool (PM a b)}
   | .neq=>some {val:= .bool (iZ (PM a b))}
   | _=>none
  | _,_=>none
 where IZ (b:E):List BE:=[wq (.lit 0) b].filter fun b=>b != .lit true
def G9(v:SV)(j:E):Option hZ:=
 match v with
 | .str l=>
  match j with
  | .lit (.ofNat i)=>if i<l.length then some {val:= .int .u8 (.lit (l.getD i 0).toNat)}else none
  | j=>some {val:= .int .u8 (gl (.qt (l.map fun b=>((b.toNat:Nat):Int))) j),vcs:=[wq (.lit 0) j,F2 j (.lit l.length)].filter fun b=>b != .lit true}
 | .kg s=>some {val:= .int .u8 (gl (JC s) j),vcs:=[wq (.lit 0) j,F2 j (jQ s)].filter fun b=>b != .lit true}
 | _=>none
def rL(s a b:E):hZ:={val:= .kg (Aj s a b),vcs:=W0 (.lit 0) a++W0 a b++W0 b (jQ s)}
 where W0 (a b:E):List BE:=if a=b then []else [wq a b].filter fun b=>b != .lit true
def yA(v:SV)(lo hi:Option E):Option hZ:=
 match v with
 | .str l=>
  match lo.getD (.lit 0),hi.getD (.lit l.length)with
  | .lit (.ofNat a),.lit (.ofNat b)=>if a≤b∧b≤l.length then some {val:= .str ((l.take b).drop a)}else none
  | a,b=>some (rL (y9 l) a b)
 | .kg s=>some (rL s (lo.getD (.lit 0)) (hi.getD (jQ s)))
 | _=>none
structure cP where
 b:Nat:=0
 v:Nat:=0
 i:Nat:=0
 a:Nat:=0
 bo:Nat:=0
 p:Nat:=0
 r:Nat:=0
 deriving Repr,DecidableEq
def DP(b:Nat)(i:E)(s c:Nat):SV:=
 match fe i with
 | some n=> .ptr b (n*s+c)
 | none=> .oJ b i s c
def dJ(a b:E):List BE:=if a=b then []else [wq a b].filter fun b=>b != .lit true
def sm:Nat→E→List SV→Option E
 | _,acc,[]=>some acc
 | o,acc,.str l::r=>sm (o+1) (.o4 acc (.lit o) (y9 l)) r
 | o,acc,.kg s::r=>sm (o+1) (.o4 acc (.lit o) s) r
 | _,_,_=>none
def Mg(cs:List SV):Option E:=sm 0 (.lit 0) cs
def wv(hp:List Ck)(agg:Bool)(size:Nat):SV→Option hZ
 | .ptr b c=>
  match findAt hp b with
  | some (j,.row _ _ cs)=>
   match i_ c size cs with
   | some x=>(iz agg x).map fun v=>{val:=v,rd:=[j]}
   | none=>none
  | _=>none
 | .oJ b i s c=>
  match findAt hp b with
  | some (j,.row _ _ cs)=>
   if s=1∧size=1∧agg=false then
    match HS c cs with
    | some (_,k,n,a,_)=>some {val:= .int k (gl a i),vcs:=gN i (.lit n),rd:=[j]}
    | none=>if c=0 then match Mg cs with
     | some a=>some {val:=mkStr (Bi a i),vcs:=gN i (.lit cs.length),rd:=[j]}
     | none=>none
     else none
   else none
  | _=>none
 | .pv v i s c=>
  match dU hp v with
  | some (j,.bC _ _ _ s' n aF)=>
   if s=s'∧s=bW aF then
    if s<size then
     match aF with
     | [⟨.int k,1,a⟩]=>if c=0∧agg=true then some {val:= .agg [.cE k size (jt a i)],vcs:=dJ (.lit 0) i++dJ (dB i (.lit size)) n,rd:=[j]}else none
     | _=>none
    else
    match mZ i aF with
    | some es=>match i_ c size es with
     | some y=>(iz agg y).map fun x=>{val:=x,vcs:=gN i n,rd:=[j]}
     | none=>none
    | none=>none
   else none
  | _=>none
 | _=>none
def xx(hp:List Ck)(size:Nat)(v:SV):SV→Option hZ
 | .ptr b c=>
  match findAt hp b,ez v with
  | some (j,.row b' true cs),some vs=>
   if jy vs=size then
    (xm c vs cs).map fun uM=>{val:= .undef,rd:=[j],hO:= .set j (.row b' true uM)}
   else none
  | _,_=>none
 | .oJ b i s c=>
  match findAt hp b,ez v with
  | some (j,.row b' true cs),some [.int k e]=>
   if s=1∧size=1 then
    match HS c cs with
    | some (pre,k',n,a,post)=>if k=k' then some {val:= .undef,vcs:=gN i (.lit n),rd:=[j],hO:= .set j (.row b' true (pre++ .cE k n (.r9 a i e)::post))}else none
    | none=>none
   else none
  | _,_=>none
 | .pv x i s c=>
  match dU hp x,ez v with
  | some (j,.bC true x' t s' n aF),some vs=>
   if s=s'∧s=bW aF∧0<size∧jy vs=size then
    (m7 i vs c aF).map fun aZ=>{val:= .undef,vcs:=gN i n,rd:=[j],hO:= .set j (.bC true x' t s' n aZ)}
   else none
  | _,_=>none
 | _=>none
def kD:List SV→List SV→Option BE
 | [],[]=>some (.lit true)
 | .int k a::r,.int k' b::r'=>if k=k' then(kD r r').map (y_ (S6 a b))else none
 | .bool a::r,.bool b::r'=>(kD r r').map (y_ (DD a b (iZ b)))
 | .cE k n a::r,.cE k' n' b::r'=>if k=k'∧n=n' then(kD r r').map (y_ (if a=b then .lit true else .RG n a b))else none
 | _,_=>none
def lQ:List SV→List SV
 | []=>[]
 | .cE k n a::r=>((List.range n).map fun j:Nat=>SV.int k (gl a (.lit j)))++lQ r
 | v::r=>v::lQ r
def xD(a b:List SV):Option BE:=
 match kD a b with
 | some c=>some c
 | none=>kD (lQ a) (lQ b)
def ptrEq(k:TK)(x y:SV):Option BE:=
 match k,x,y with
 | .ptr _,.gI,.gI=>some (.lit true)
 | .ptr _,.gI,.ptr .. =>some (.lit false)
 | .ptr _,.ptr ..,.gI=>some (.lit false)
 | .ptr _,.gI,.oJ .. =>some (.lit false)
 | .ptr _,.oJ ..,.gI=>some (.lit false)
 | .ptr _,.gI,.nH e=>some (S6 e (.lit 0))
 | .ptr _,.nH e,.gI=>some (S6 e (.lit 0))
 | .slice _,.b_,.b_=>some (.lit true)
 | .slice _,.b_,.sl .. =>some (.lit false)
 | .slice _,.sl ..,.b_=>some (.lit false)
 | .func,.lH,.lH=>some (.lit true)
 | .func,.lH,.fn .. =>some (.lit false)
 | .func,.fn ..,.lH=>some (.lit false)
 | _,_,_=>none
def IntKind.lo:IntKind→Int
 | .i8=> -128 | .i16=> -32768 | .i32=> -2147483648 | .i64=> -9223372036854775808 | _=>0
def IntKind.hi:IntKind→Int
 | .i8=>127 | .i16=>32767 | .i32=>2147483647 | .i64=>9223372036854775807
 | .u8=>255 | .u16=>65535 | .u32=>4294967295 | .u64=>18446744073709551615
def s7:IntKind→Bool
 | .i8 | .i16 | .i32 | .i64=>true
 | _=>false
def xB(k:IntKind)(e:E):E×List BE:=
 match e with
 | .lit n=>(.lit (k.wrap n),[])
 | _=>if s7 k then(e,[.le (.lit (IntKind.lo k)) e,.le e (.lit (IntKind.hi k))])else(.wrap k e,[])
def xC(k:IntKind)(e:E):E×List BE:=
 match e with
 | .wrap .u64 (.bin .sub .i64 (.lit 0) _)=>if s7 k then(.wrap k e,[])else xB k e
 | _=>xB k e
def nP(b:E):List BE:=[wq (.lit 0) b].filter fun b=>b != .lit true
def mo(ti:TI)(o:BinOp)(x y:SV):Option hZ:=
 match x,y with
 | .int k a,.int k' b=>
  match o with
  | .shl=>some {val:= .int k (tI .shl k a b),vcs:=nP b}
  | .shr=>some {val:= .int k (tI .shr k a b),vcs:=nP b}
  | _=>
  if k≠k' then none else
  match o with
  | .add=>let (e,vc):=xB k (dB a b);some {val:= .int k e,vcs:=vc}
  | .sub=>let (e,vc):=xB k (tH a b);some {val:= .int k e,vcs:=vc}
  | .mul=>let (e,vc):=xB k (o6 a b);some {val:= .int k e,vcs:=vc}
  | .quo=>some {val:= .int k (Mc k (tI .quo k a b)),vcs:=[PN b]}
  | .rem=>some {val:= .int k (tI .rem k a b),vcs:=[PN b]}
  | .and=>some {val:= .int k (tI .aP k a b)}
  | .or=>some {val:= .int k (tI .bR k a b)}
  | .xor=>some {val:= .int k (tI .ay k a b)}
  | .andNot=>some {val:= .int k (tI .PH k a b)}
  | .eql=>some {val:= .bool (S6 a b)}
  | .neq=>some {val:= .bool (iZ (S6 a b))}
  | .lss=>some {val:= .bool (F2 a b)}
  | .leq=>some {val:= .bool (wq a b)}
  | .gtr=>some {val:= .bool (F2 b a)}
  | .geq=>some {val:= .bool (wq b a)}
  | _=>none
 | .bool a,.bool b=>
  if ti.k≠ .bool then none else
  match o with
  | .eql=>some {val:= .bool (DD a b (iZ b))}
  | .neq=>some {val:= .bool (iZ (DD a b (iZ b)))}
  | _=>none
 | .agg a,.agg b=>
  if !ti.k.agg||ti.lay.isEmpty|| !(ph a (jR ti.lay))|| !(ph b (jR ti.lay))then none else
  match o,xD a b with
  | .eql,some c=>some {val:= .bool c}
  | .neq,some c=>some {val:= .bool (iZ c)}
  | _,_=>none
 | a,b=>
  if ti.k= .str then tM o a b else
  match o,ptrEq ti.k a b with
  | .eql,some c=>some {val:= .bool c}
  | .neq,some c=>some {val:= .bool (iZ c)}
  | _,_=>none
def jI(place:Nat→Option (Nat×Nat))(cells:List SV):List (Nat×List SV)→Option (List SV)
 | []=>some cells
 | (i,cs)::r=>
  match place i with
  | some (off,size)=>
   if jy cs=size then
    match xm off cs cells with
    | some Up=>jI place Up r
    | none=>none
   else none
  | none=>none
def gx(T:List TI)(fs:List (Nat×Nat))(i:Nat):Option (Nat×Nat):=
 match fs[i]? with
 | some (t,off)=>(a_ T t).map fun ti=>(off,ti.size)
 | none=>none
def jx(size:Nat)(i:Nat):Option (Nat×Nat):=some (i*size,size)
def pk(T:List TI)(fs:List (Nat×Nat)):Bool:=fs.all fun f=>(a_ T f.1).isSome
def partsOf(look:Nat→Option SV):List (Nat×Operand)→Option (List (Nat×List SV))
 | []=>some []
 | (i,x)::r=>
  match iD look x,partsOf look r with
  | some v,some rest=>(ez v).map fun cs=>(i,cs)::rest
  | _,_=>none
def jc:List (Option SV)→Option (List SV)
 | []=>some []
 | some v::r=>(jc r).map (v:: ·)
 | none::_=>none
def Ct(c:BE)(a b:SV):Option SV:=
 match c with
 | .lit true=>some a
 | .lit false=>some b
 | c=>
  match a,b with
  | .bool x,.bool y=>some (.bool (DD c x y))
  | .bool x,.opt g (.bool y)=>if g=iZ c then some (.bool (DD c x y))else none
  | .opt g (.bool x),.bool y=>if g=c then some (.bool (DD c x y))else none
  | _,_=>none
structure Part where
 lo:E
 len:E
 mx:Option E
 deriving Repr
def lS(n:E)(p:Part)(c:Cut):Part×List BE:=
 (⟨dB p.lo c.lo,tH c.hi c.lo,match c.mx with | some m=>some (dB p.lo m) | none=>p.mx⟩,
  dJ (.lit 0) c.lo++dJ c.lo c.hi++
  match c.mx,p.mx with
  | none,none=>dJ (dB p.lo c.hi) n
  | none,some m0=>dJ (dB p.lo c.hi) m0
  | some m,none=>dJ c.hi m++dJ (dB p.lo m) n
  | some m,some m0=>dJ c.hi m++dJ (dB p.lo m) m0)
def rp(n:E):List Cut→Part→Part×List BE
 | [],p=>(p,[])
 | c::r,p=>((rp n r (lS n p c).1).1,(lS n p c).2++(rp n r (lS n p c).1).2)
structure Rt where
 j:Nat
 md:Bool
 v:Nat
 t:Nat
 s:Nat
 n:E
 aF:List bV
 p:Part
 vcs:List BE
def fE(hp:List Ck):SV→Option Rt
 | .vv v=>match dU hp v with
  | some (j,.bC md _ t s n aF)=>some ⟨j,md,v,t,s,n,aF,⟨.lit 0,n,none⟩,[]⟩
  | _=>none
 | .jP v cs s'=>match dU hp v with
  | some (j,.bC md _ t s n aF)=>if s=s' then some ⟨j,md,v,t,s,n,aF,(rp n cs ⟨.lit 0,n,none⟩).1,(rp n cs ⟨.lit 0,n,none⟩).2⟩else none
  | _=>none
 | _=>none
def G_(hp:List Ck)(k:TK)(v:SV):Option hZ:=
 match k with
 | .slice _=>
  match v with
  | .sl _ _ _ n _=>some {val:= .int .i64 n,vcs:=nP n}
  | .b_=>some {val:= .int .i64 (.lit 0)}
  | .vv v=>
   match dU hp v with
   | some (j,.bC _ _ _ _ n _)=>some {val:= .int .i64 n,vcs:=nP n,rd:=[j]}
   | _=>none
  | .jP v cs s=>
   match fE hp (.jP v cs s)with
   | some r=>some {val:= .int .i64 r.p.len,vcs:=r.vcs++dJ (.lit 0) r.p.len,rd:=[r.j]}
   | none=>none
  | _=>none
 | .str=>
  match v with
  | .str l=>some {val:= .int .i64 (.lit l.length)}
  | .kg s=>some {val:= .int .i64 (jQ s),vcs:=nP (jQ s)}
  | _=>none
 | _=>none
mutual
def uq(T:List TI):Nat→Nat→Option (List bV)
 | 0,_=>none
 | d+1,t=>
  match a_ T t with
  | some {k:= .int k,.. }=>some [⟨.int k,1,.lit 0⟩]
  | some {k:= .bool,.. }=>some [⟨.bool,1,.lit 0⟩]
  | some {k:= .ptr _,.. }=>some [⟨.ptr,1,.lit 0⟩]
  | some {k:= .slice _,.. }=>some [⟨.b_,1,.lit 0⟩]
  | some {k:= .str,.. }=>some [⟨.str,1,.lit 0⟩]
  | some {k:= .arr n e,.. }=>match a_ T e with
   | some {k:= .int k,.. }=>some [⟨.int k,n,.lit 0⟩]
   | _=>none
  | some {k:= .struct fs,.. }=>I0 T d fs
  | _=>none
def I0(T:List TI):Nat→List (Nat×Nat)→Option (List bV)
 | 0,_=>none
 | _+1,[]=>some []
 | d+1,(t,_)::r=>match uq T d t,I0 T d r with
  | some a,some b=>some (a++b)
  | _,_=>none
end
def ur(T:List TI)(hp:List Ck)(nv:Nat)(k:TK)(x y:SV):Option hZ:=
 match x,y with
 | .vv v,.sl b i s m _=>
  match dU hp v,findAt hp b with
  | some (j,.bC true _ t s' n aF),some (j',.row _ _ cs)=>
   match kC n cs aF,a_ T t with
   | some aZ,some te=>
    if i= .lit 0∧m= .lit 1∧k= .slice t∧s=s'∧s=bW aF∧jy cs=s∧0<s∧cs.all SV.one=true∧te.size=s then
     some {val:= .vv nv,vcs:=nP n++[.le (.bin .mul .i64 (.bin .add .i64 n (.lit 1)) (.lit (max 1 te.bytes:Nat))) (.lit 140737488355328)],rd:=[j,j'],hO:= .app j (.bC true nv t s (dB n (.lit 1)) aZ)}
    else none
   | _,_=>none
  | _,_=>none
 | .b_,.sl b i s m _=>
  match findAt hp b,k with
  | some (j',.row _ _ cs),.slice t=>
   match a_ T t,uq T 30 t with
   | some te,some aF=>
    match kC (.lit 0) cs aF with
    | some aZ=>
     if i= .lit 0∧m= .lit 1∧s=bW aF∧jy cs=s∧0<s∧cs.all SV.one=true∧te.size=s∧te.bytes≤140737488355328 then
      some {val:= .vv nv,rd:=[j'],hO:= .own (.bC true nv t s (.lit 1) aZ)}
     else none
    | none=>none
   | _,_=>none
  | _,_=>none
 | _,_=>none
def xI(x:SV)(c:Cut)(s:Nat):Option SV:=
 match x with
 | .vv v=>some (.jP v [c] s)
 | .jP v cs s'=>if s=s' then some (.jP v (cs++[c]) s)else none
 | _=>none
def xK(T:List TI)(hp:List Ck)(k:TK)(x:SV)(lo hi mx:Option E):Option hZ:=
 if mx.isSome&&hi.isNone then none else
 match k,x with
 | .slice e,.sl b i s n m=>
  match a_ T e with
  | some te=>
   if te.size=s then
    let l:=lo.getD (.lit 0)
    let h:=hi.getD n
    let mm:=mx.getD m
    some {val:= .sl b (dB i l) s (tH h l) (tH mm l),vcs:=dJ (.lit 0) i++dJ (.lit 0) l++dJ l h++dJ h mm++dJ mm m++dJ (.lit 0) n++(if l= .lit 0 then []else [F2 l mm].filter fun b=>b != .lit true)}
   else none
  | none=>none
 | .slice e,.b_=>
  match a_ T e with
  | some _=>if lo.getD (.lit 0)= .lit 0∧hi.getD (.lit 0)= .lit 0∧mx.getD (.lit 0)= .lit 0 then some {val:= .b_}else none
  | none=>none
 | .slice e,x=>
  match a_ T e,fE hp x with
  | some te,some r=>
   if te.size=r.s then
    let c:Cut:=⟨lo.getD (.lit 0),hi.getD r.p.len,mx⟩
    match xI x c r.s with
    | some v=>some {val:=v,vcs:=r.vcs++(lS r.n r.p c).2,rd:=[r.j]}
    | none=>none
   else none
  | _,_=>none
 | .arr n e,.ptr b c=>
  match a_ T e with
  | some te=>
   if te.size≠0∧c%te.size=0 then
    let l:=lo.getD (.lit 0)
    let h:=hi.getD (.lit n)
    let mm:=mx.getD (.lit n)
    some {val:= .sl b (dB (.lit (c/te.size:Nat)) l) te.size (tH h l) (tH mm l),vcs:=dJ (.lit 0) l++dJ l h++dJ h mm++dJ mm (.lit n)++(if l= .lit 0 then []else [F2 l mm].filter fun b=>b != .lit true)}
   else none
  | none=>none
 | _,_=>none
def Fa(lo:E)(c:bV):Option bV:=
 match c.ck with
 | .val _=>if lo= .lit 0 then some c else none
 | .Ba _=>if lo= .lit 0 then some c else none
 | .str=>if lo= .lit 0 then some c else none
 | _=>some {c with a:=jt c.a (o6 lo (.lit c.w))}
def gU(lo:E):List bV→Option (List bV)
 | []=>some []
 | c::r=>match Fa lo c,gU lo r with
  | some a,some b=>some (a::b)
  | _,_=>none
def Ha(at_ m:E)(d s:bV):Option bV:=
 if d.w≠s.w then none else
 match d.ck,s.ck with
 | .int k,.int k'=>if k=k' then some {d with a:= .tw d.a (o6 at_ (.lit d.w)) (o6 m (.lit d.w)) s.a}else none
 | .bool,.bool=>some {d with a:= .tw d.a (o6 at_ (.lit d.w)) (o6 m (.lit d.w)) s.a}
 | .ptr,.ptr=>some {d with a:= .tw d.a (o6 at_ (.lit d.w)) (o6 m (.lit d.w)) s.a}
 | .b_,.b_=>some d
 | .str,.str=>if m= .lit 1∧d.w=1 then some {d with a:= .o4 d.a at_ (Bi s.a (.lit 0))}else if m= .lit 0 then some d else none
 | _,_=>none
def gi(at_ m:E):List bV→List bV→Option (List bV)
 | [],[]=>some []
 | d::r,s::r'=>match Ha at_ m d s,gi at_ m r r' with
  | some a,some b=>some (a::b)
  | _,_=>none
 | _,_=>none
structure Src where
 rd:List Nat
 vcs:List BE
 n:E
 aF:List bV
def s8(s:Nat):Nat→Nat→List SV→List bV→Option (List bV)
 | 0,_,_,aF=>some aF
 | k+1,i,cs,aF=>
  match i_ 0 s cs,fl s cs with
  | some a,some b=>match kC (.lit i) a aF with
   | some aZ=>s8 s k (i+1) b aZ
   | none=>none
  | _,_=>none
def AV(T:List TI)(hp:List Ck)(te:TI)(y:SV):Option Src:=
 match y with
 | .b_=>match uq T 30 te.t with
  | some aF=>if te.size=bW aF then some ⟨[],[],.lit 0,aF⟩else none
  | none=>none
 | .sl b i s m _=>
  match findAt hp b with
  | some (j,.row _ _ cs)=>
   if s≠te.size then none else
   match fe i,fe m with
   | some i0,some m0=>
    match i_ (i0*s) (m0*s) cs with
    | some [.cE k N a]=>if s=1∧N=m0 then some ⟨[j],[],.lit m0,[⟨.int k,1,a⟩]⟩else none
    | some x=>
     if x.all SV.one then
      match uq T 30 te.t with
      | some aF=>if s=bW aF then(s8 s m0 0 x aF).map fun aZ=>⟨[j],[],.lit m0,aZ⟩else none
      | none=>none
     else none
    | none=>none
   | _,_=>
    match cs with
    | [.cE k N a]=>if s=1 then some ⟨[j],dJ (.lit 0) i++dJ (.lit 0) m++dJ (dB i m) (.lit N),m,[⟨.int k,1,jt a i⟩]⟩else none
    | _=>none
  | _=>none
 | x=>
  match fE hp x with
  | some r=>
   if r.s=te.size∧r.s=bW r.aF then
    (gU r.p.lo r.aF).map fun aF=>⟨[r.j],r.vcs++dJ (.lit 0) r.p.len,r.p.len,aF⟩
   else none
  | none=>none
def om(n:E)(bytes:Nat):BE:=wq (o6 n (.lit (max 1 bytes:Nat))) (.lit 140737488355328)
def Ob(y:SV)(v:Nat):Bool:=
 match y with
 | .vv v'=>v'==v
 | .jP v' _ _=>v'==v
 | _=>false
def rM(T:List TI)(hp:List Ck)(nv:Nat)(k:TK)(x y:SV):Option hZ:=
 match k with
 | .slice t=>
  match a_ T t with
  | some te=>
   match AV T hp te y with
   | some sc=>
    if te.size=0 then none else
    match x with
    | .b_=>some {val:= .vv nv,vcs:=sc.vcs++dJ (.lit 0) sc.n++[om sc.n te.bytes],rd:=sc.rd,hO:= .own (.bC true nv t te.size sc.n sc.aF)}
    | .sl b i s n m=>
     match AV T hp te (.sl b i s n m),fe sc.n with
     | some x,some (_+1)=>
      if x.n=n∧n=m∧s=te.size then
       (gi n sc.n x.aF sc.aF).map fun aZ=>{val:= .vv nv,vcs:=x.vcs++sc.vcs++dJ (.lit 0) n++[om (dB n sc.n) te.bytes],rd:=x.rd++sc.rd,hO:= .own (.bC true nv t te.size (dB n sc.n) aZ)}
      else none
     | _,_=>none
    | x=>
     match fE hp x with
     | some r=>
      if r.t=t∧r.s=te.size∧r.s=bW r.aF∧r.md=true then
       if Ob y r.v then
        match x,gi (dB r.p.lo r.p.len) sc.n r.aF sc.aF with
        | .jP v [⟨lo,hi,none⟩] s,some aZ=>
         some {val:= .jP v [⟨lo,dB hi sc.n,none⟩] s,vcs:=r.vcs++sc.vcs++dJ (.lit 0) sc.n++dJ (dB hi sc.n) r.n,rd:=r.j::sc.rd,hO:= .set r.j (.bC true r.v t r.s r.n aZ)}
        | _,_=>none
       else
        match gU r.p.lo r.aF with
        | some rc=>
         match (if r.p.len= .lit 0 then some sc.aF else gi r.p.len sc.n rc sc.aF)with
         | some aZ=>
          some {val:= .vv nv,vcs:=r.vcs++sc.vcs++dJ (.lit 0) r.p.len++dJ (.lit 0) sc.n++[om (dB r.p.len sc.n) te.bytes],rd:=r.j::sc.rd,hO:= .app r.j (.bC true nv t r.s (dB r.p.len sc.n) aZ)}
         | none=>none
        | none=>none
      else none
     | none=>none
   | none=>none
  | none=>none
 | _=>none
def jg:List SV→List bV→Bool
 | [],[]=>true
 | .int k (.lit 0)::r,⟨.int k',w,.lit 0⟩::aF=>k==k'&&w==1&&jg r aF
 | .bool (.lit false)::r,⟨.bool,w,.lit 0⟩::aF=>w==1&&jg r aF
 | .cE k n (.lit 0)::r,⟨.int k',w,.lit 0⟩::aF=>k==k'&&w==n&&jg r aF
 | .gI::r,⟨.ptr,w,.lit 0⟩::aF=>w==1&&jg r aF
 | .b_::r,⟨.b_,w,_⟩::aF=>w==1&&jg r aF
 | .str []::r,⟨.str,w,.lit 0⟩::aF=>w==1&&jg r aF
 | _,_=>false
def gG(T:List TI)(te:TI):Option (List bV):=
 match uq T 30 te.t with
 | some aF=>if jg te.zero aF&&bW aF==te.size&& !(te.size==0)then some aF else none
 | none=>none
def yB(T:List TI)(hp:List Ck)(k:TK)(x:SV):Option hZ:=
 match k,x with
 | .slice _,.b_=>some {val:= .undef}
 | .slice e,x=>
  match a_ T e,fE hp x with
  | some te,some r=>
   match gG T te with
   | some z=>
    if r.s=te.size∧r.s=bW r.aF∧r.md=true then
     (gi r.p.lo r.p.len r.aF z).map fun aZ=>{val:= .undef,vcs:=r.vcs++dJ (.lit 0) r.p.len,rd:=[r.j],hO:= .set r.j (.bC true r.v r.t r.s r.n aZ)}
    else none
   | none=>none
  | _,_=>none
 | _,_=>none
def wb:E→E→E
 | .lit a,.lit b=> .lit (min a b)
 | a,b=>if a=b then a else .bin .tE .i64 a b
def Cu(T:List TI)(hp:List Ck)(k:TK)(x y:SV):Option hZ:=
 match k with
 | .slice t=>
  match a_ T t with
  | some te=>
   match AV T hp te y with
   | some sc=>
    match x with
    | .sl b i s n _=>
     match findAt hp b with
     | some (j,.row b' true cs)=>
      if s≠te.size∨s=0 then none else
      match cs with
      | [.cE k N a]=>
       match sc.aF with
       | [⟨.int k',1,a'⟩]=>
        if s=1∧k=k' then
         some {val:= .int .i64 (wb sc.n n),vcs:=sc.vcs++dJ (.lit 0) sc.n++dJ (.lit 0) i++dJ (.lit 0) n++dJ (dB i n) (.lit N),rd:=j::sc.rd,hO:= .set j (.row b' true [.cE k N (.tw a i (wb sc.n n) a')])}
        else none
       | _=>none
      | _=>
       match fe i,fe n,fe sc.n,sc.aF with
       | some i0,some n0,some m0,[⟨.int k',1,a'⟩]=>
        if s=1 then
         (xm i0 [.cE k' (min m0 n0) a'] cs).map fun uM=>{val:= .int .i64 (.lit (min m0 n0:Nat)),vcs:=sc.vcs,rd:=j::sc.rd,hO:= .set j (.row b' true uM)}
        else none
       | _,_,_,_=>none
     | _=>none
    | x=>
     match fE hp x with
     | some r=>
      if r.t=t∧r.s=te.size∧r.s=bW r.aF∧r.md=true∧0<r.s then
       (gi r.p.lo (wb sc.n r.p.len) r.aF sc.aF).map fun aZ=>
        {val:= .int .i64 (wb sc.n r.p.len),vcs:=r.vcs++sc.vcs++dJ (.lit 0) r.p.len++dJ (.lit 0) sc.n,rd:=r.j::sc.rd,hO:= .set r.j (.bC true r.v t r.s r.n aZ)}
      else none
     | none=>none
   | none=>none
  | none=>none
 | _=>none
def Cv(T:List TI)(nv:Nat)(k:TK)(n c:E):Option hZ:=
 match k with
 | .slice t=>
  match a_ T t with
  | some te=>
   match gG T te with
   | some z=>some {val:= .vv nv,vcs:=dJ (.lit 0) n++dJ n c++[om c te.bytes],hO:= .own (.bC true nv t te.size n z)}
   | none=>none
  | none=>none
 | _=>none
def Bu(T:List TI)(hp:List Ck)(nv:Nat)(k:TK)(x:SV)(m:E):Option hZ:=
 match k,x with
 | .slice t,.vv v=>
  match a_ T t,dU hp v with
  | some te,some (j,.bC true _ t' s n aF)=>
   match gG T te with
   | some z=>
    match gi n m aF z with
    | some aZ=>
     if t'=t∧s=te.size∧s=bW aF then
      some {val:= .vv nv,vcs:=dJ (.lit 0) n++dJ (.lit 0) m++[om (dB n m) te.bytes],rd:=[j],hO:= .app j (.bC true nv t s (dB n m) aZ)}
     else none
    | none=>none
   | none=>none
  | _,_=>none
 | .slice t,.b_=>
  match a_ T t with
  | some te=>
   match gG T te with
   | some z=>
    if te.size=bW z then
     some {val:= .vv nv,vcs:=dJ (.lit 0) m++[om m te.bytes],hO:= .own (.bC true nv t te.size m z)}
    else none
   | none=>none
  | none=>none
 | _,_=>none
def tW(T:List TI)(hp:List Ck)(nv:Nat)(k:TK)(x y:SV):Option hZ:=
 match k,x with
 | .slice t,.sl b i s n m=>
  match a_ T t,findAt hp b,fe i,fe n with
  | some te,some (j,.row _ true cs),some 0,some q=>
   match rowOf cs,AV T hp te y with
   | some (ki::kl,a),some sc=>
    if n=m∧s=1∧te.size=1∧kl.length+1=q∧ki::kl=List.replicate q ki then
     (gi (.lit q) sc.n [⟨.int ki,1,a⟩] sc.aF).map fun aZ=>
      {val:= .vv nv,vcs:=sc.vcs++dJ (.lit 0) sc.n++[om (dB (.lit q) sc.n) te.bytes],rd:=j::sc.rd,hO:= .app j (.bC true nv t 1 (dB (.lit q) sc.n) aZ)}
    else none
   | _,_=>none
  | _,_,_,_=>none
 | _,_=>none
def wA:List SV→Option (List Nat)
 | []=>some []
 | .vv i::r=>(wA r).map (i:: ·)
 | _=>none
def sE(hp:List Ck):SV→Option (Nat×List Nat)
 | .sl b i _ n _=>
  match findAt hp b,fe i,fe n with
  | some (j,.row _ _ cs),some 0,some q=>
   match wA cs with
   | some l=>if l.length=q then some (j,l)else none
   | none=>none
  | _,_,_=>none
 | _=>none
def tX(T:List TI)(hp:List Ck)(nv:Nat)(k:TK)(x y:SV):Option hZ:=
 match k,x with
 | .slice t,.sl b i s n m=>
  match a_ T t,sE hp (.sl b i s n m),sE hp y with
  | some te,some (j,l),some (j',l')=>
   if n=m∧te.size=1∧l'.length≠0∧(l.length+l'.length)*te.bytes≤140737488355328∧l.length+l'.length≤140737488355328 then
    some {val:= .vv nv,rd:=[j,j'],hO:= .own (.bC true nv t 1 (.lit (l.length+l'.length:Nat)) [⟨.Ba (l++l'),1,.lit 0⟩])}
   else none
  | _,_,_=>none
 | _,_=>none
def uu(T:List TI)(hp:List Ck)(nv:Nat)(tt:TI)(ts UT:Nat)(x y:SV):Option hZ:=
 if ts=UT then(match ur T hp nv tt.k x y with | some r=>some r | none=>match rM T hp nv tt.k x y with | some r=>some r | none=>match tW T hp nv tt.k x y with | some r=>some r | none=>tX T hp nv tt.k x y)else(match a_ T UT,y with
    | some ti,.int _ m=>match ti.k with
     | .int _=>Bu T hp nv tt.k x m
     | _=>none
    | _,_=>none)
def Mq(a:E)(i:Nat):Option Int:=
 match gl a (.lit i)with
 | .lit n=>some n
 | _=>none
def tR(a:E):Nat→Option (List Int)
 | 0=>some []
 | n+1=>match tR a n,Mq a n with
  | some l,some x=>some (l++[x])
  | _,_=>none
def P3(n:Nat)(a:E):E:=
 match tR a n with
 | some l=> .lit (cR l:Nat)
 | none=> .kc n a
def rz:List gb→Option (List IntKind)
 | []=>some []
 | some k::r=>(rz r).map (k:: ·)
 | none::_=>none
def pz(ti:TI):Option (List IntKind×Bool):=
 match ti.k with
 | .int k=>some ([k],false)
 | .struct _=>if ti.lay.isEmpty then none else(rz (jR ti.lay)).map fun l=>(l,true)
 | .arr .. =>if ti.lay.isEmpty then none else(rz (jR ti.lay)).map fun l=>(l,true)
 | _=>none
def sA(ka:Bool)(k:SV):Option (List SV):=
 match ka,k with
 | true,.agg cs=>some cs
 | false,.int q e=>some [.int q e]
 | _,_=>none
def tS(T:List TI)(te:TI):Option (List bV):=
 if te.size=0 then(if te.zero.isEmpty&&te.k.agg then some []else none)else gG T te
def Ck.isMap(b:Nat):Ck→Bool
 | .map b' .. =>b==b'
 | .sq b' .. =>b==b'
 | _=>false
def wz(hp:List Ck)(b:Nat):Option (Nat×Ck):=
 match hp.findIdx? (Ck.isMap b)with
 | some i=>(hp[i]?).map fun c=>(i,c)
 | none=>none
def eR:List SV→List SV→Bool
 | [],[]=>true
 | .int k (.lit n)::r,.int k' (.lit m)::s=>k==k'&&n==m&&eR r s
 | .bool (.lit a)::r,.bool (.lit b)::s=>a==b&&eR r s
 | .cE k n (.lit a)::r,.cE k' n' (.lit b)::s=>k==k'&&n==n'&&a==b&&eR r s
 | .gI::r,.gI::s=>eR r s
 | .b_::r,.b_::s=>eR r s
 | .lH::r,.lH::s=>eR r s
 | .sd::r,.sd::s=>eR r s
 | .qu::r,.qu::s=>eR r s
 | .str l::r,.str l'::s=>l==l'&&eR r s
 | _,_=>false
def TK.isSlice:TK→Bool
 | .slice _=>true
 | _=>false
def rA(T:List TI)(nb t:Nat):Option hZ:=
 match a_ T t with
 | some {k:= .map kt vt,.. }=>
  match a_ T kt,a_ T vt with
  | some tk,some tv=>
   match pz tk,(if tv.k.isSlice then none else tS T tv)with
   | some (kl,ka),some aF=>some {val:= .mp nb,hO:= .new (.map nb kl ka tv.k.agg tv.zero (.lit 0) aF)}
   | some (kl,ka),none=>some {val:= .mp nb,hO:= .new (.sq nb kl ka tv.k.agg tv.zero [])}
   | _,_=>none
  | _,_=>none
 | _=>none
def tU(T:List TI)(hp:List Ck)(t:Nat)(x k:SV)(comma:Bool):Option hZ:=
 match a_ T t with
 | some {k:= .map kt vt,.. }=>
  match a_ T kt,a_ T vt with
  | some tk,some tv=>
   match pz tk with
   | some (kl,ka)=>
    match sA ka k with
    | some kc=>
     match rowOf kc with
     | some (Lf,a)=>
      if Lf≠kl then none else
      match x with
      | .qu=>(iz tv.k.agg tv.zero).map fun v=>{val:=if comma then .rR [v,.bool (.lit false)]else v}
      | .mp b=>
       match wz hp b with
       | some (j,.map _ xN Ms JY Ao has aF)=>
        if xN=kl∧Ms=ka∧JY=tv.k.agg∧eR Ao tv.zero=true then
         match mZ (P3 kl.length a) aF with
         | some es=>(iz tv.k.agg es).map fun v=>{val:=if comma then .rR [v,.bool (PN (gl has (P3 kl.length a)))]else v,rd:=[j]}
         | none=>none
        else none
       | some (j,.sq _ xN Ms JY Ao es)=>
        if xN=kl∧Ms=ka∧JY=tv.k.agg∧eR Ao tv.zero=true then
         match P3 kl.length a with
         | .lit n=>(iz tv.k.agg (mr es Ao n.toNat)).map fun v=>{val:=if comma then .rR [v,.bool (.lit (pj es n.toNat))]else v,rd:=[j]}
         | _=>none
        else none
       | _=>none
      | _=>none
     | none=>none
    | none=>none
   | none=>none
  | _,_=>none
 | _=>none
def Bt:SV→Bool
 | .agg _=>true
 | .cE .. =>true
 | _=>false
def tV(T:List TI)(hp:List Ck)(t:Nat)(x k v:SV):Option hZ:=
 match a_ T t with
 | some {k:= .map kt vt,.. }=>
  match a_ T kt,a_ T vt with
  | some tk,some tv=>
   match pz tk with
   | some (kl,ka)=>
    match sA ka k,ez v with
    | some kc,some vs=>
     match rowOf kc,x with
     | some (Lf,a),.mp b=>
      match wz hp b with
      | some (j,.map b' xN Ms JY zero has aF)=>
       if Lf=kl∧xN=kl∧Ms=ka∧JY=tv.k.agg∧jy vs=bW aF∧Bt v=tv.k.agg then
        match kC (P3 kl.length a) vs aF with
        | some aZ=>some {val:= .undef,rd:=[j],hO:= .set j (.map b' kl ka JY zero (.r9 has (P3 kl.length a) (.lit 1)) aZ)}
        | none=>none
       else none
      | some (j,.sq b' xN Ms JY zero es)=>
       if Lf=kl∧xN=kl∧Ms=ka∧JY=tv.k.agg∧Bt v=tv.k.agg then
        match P3 kl.length a with
        | .lit n=>some {val:= .undef,rd:=[j],hO:= .set j (.sq b' kl ka JY zero (zk n.toNat vs es))}
        | _=>none
       else none
      | _=>none
     | _,_=>none
    | _,_=>none
   | none=>none
  | _,_=>none
 | _=>none
def bytesOf(T:List TI)(nv:Nat)(k:TK)(v:SV):Option hZ:=
 match k with
 | .slice e=>
  match a_ T e,o7 v with
  | some te,some s=>if te.k= .int .u8∧te.size=1 then some {val:= .vv nv,vcs:=[wq (.lit 0) (jQ s)].filter (fun b=>b != .lit true),hO:= .DM (.bC false nv e 1 (jQ s) [⟨.int .u8,1,JC s⟩])}else none
  | _,_=>none
 | _=>none
def ql(a n:E):E:=
 match fe n with
 | some k=>match tR a k with
  | some l=> .qt ((k:Int)::l)
  | none=>rj a n
 | none=>rj a n
def Cw(hp:List Ck):SV→Option hZ
 | .b_=>some {val:= .str []}
 | .sl b i 1 n _=>
  match findAt hp b,fe i,fe n with
  | some (j,.row _ _ cs),some i,some n=>
   match i_ i n cs with
   | some xs=>
    match rowOf xs with
    | some (kl,a)=>if kl=List.replicate n .u8 then some {val:=mkStr (ql a (.lit n)),rd:=[j]}else none
    | none=>none
   | none=>none
  | some (j,.row _ _ [.cE .u8 m a]),some 0,none=>some {val:=mkStr (ql a n),vcs:=[wq n (.lit m)].filter (fun b=>b != .lit true),rd:=[j]}
  | _,_,_=>none
 | .vv v=>
  match dU hp v with
  | some (j,.bC _ _ _ 1 n [⟨.int .u8,1,a⟩])=>some {val:=mkStr (ql a n),rd:=[j]}
  | _=>none
 | .jP v cs s=>
  match fE hp (.jP v cs s)with
  | some r=>match gU r.p.lo r.aF with
   | some [⟨.int .u8,1,a⟩]=>if r.s=1∧r.s=bW r.aF then some {val:=mkStr (ql a r.p.len),vcs:=r.vcs++dJ (.lit 0) r.p.len,rd:=[r.j]}else none
   | _=>none
  | none=>none
 | _=>none
def ns(T:List TI)(hp:List Ck)(src:TypeId)(v:SV):Option hZ:=
 match a_ T src with
 | some ts=>
  match ts.k with
  | .slice e=>
   match a_ T e with
   | some te=>if te.k= .int .u8 then Cw hp v else none
   | none=>none
  | _=>none
 | none=>none
def yC(ti:TI)(op:BinOp)(y:Operand)(a:SV):Option hZ:=
 match ti.k,y,a with
 | .iface,.const .nilIface,.sd=>
  match op with
  | .eql=>some {val:= .bool (.lit true)}
  | .neq=>some {val:= .bool (.lit false)}
  | _=>none
 | .iface,.const .nilIface,.L6 .. =>
  match op with
  | .eql=>some {val:= .bool (.lit false)}
  | .neq=>some {val:= .bool (.lit true)}
  | _=>none
 | .iface,.const .nilIface,.FZ c _=>
  match op with
  | .eql=>some {val:= .bool (iZ c)}
  | .neq=>some {val:= .bool c}
  | _=>none
 | _,_,_=>none
def xH(look:Nat→Option SV):Option Operand→Option (Option E)
 | none=>some none
 | some o=>match iD look o with
  | some (.int _ e)=>some (some e)
  | _=>none
def dA(T:List TI)(look:Nat→Option SV)(hp:List Ck)(nb nv:Nat)(o:Oper):Option hZ:=
 let ev:=iD look
 match o.op with
 | .move x | .assign x=>(ev x).map fun v=>{val:=v}
 | .pick c a b=>
  match ev c,ev a,ev b with
  | some (.bool c),some a,some b=>(Ct c a b).map fun v=>{val:=v}
  | _,_,_=>none
 | .alloc t=>(a_ T t).bind fun ti=>match ti.k with
  | .HR _ e=>if eR ti.zero [.gI,.b_]then some {val:= .ptr nb 0,hO:= .new (.HR nb t e (.lit 0) (.lit 0))}else none
  | _=>some {val:= .ptr nb 0,hO:= .new (.row nb true ti.zero)}
 | .box _ x=>
  match ev x with
  | some v=>(ez v).map fun cs=>{val:= .ptr nb 0,hO:= .new (.row nb true cs)}
  | none=>none
 | .build t parts=>
  match a_ T t,partsOf look parts.toList with
  | some ti,some ps=>
   match ti.k with
   | .struct fs=>if pk T fs then(jI (gx T fs) ti.zero ps).map fun cs=>{val:= .agg cs}else none
   | .arr _ e=>
    match a_ T e with
    | some te=>(jI (jx te.size) ti.zero ps).map fun cs=>{val:= .agg cs}
    | none=>none
   | _=>none
  | _,_=>none
 | .buildSlice t len parts=>
  match a_ T t,partsOf look parts.toList with
  | some ti,some ps=>
   match ti.k with
   | .slice e=>
    match a_ T e with
    | some te=>if len=0 then(if ps.isEmpty then(gG T te).map fun z=>{val:= .vv nv,hO:= .own (.bC true nv e te.size (.lit 0) z)}else none)else if te.size=0∨1000<len*te.size then none else(jI (jx te.size) (List.replicate len te.zero).flatten ps).map fun cs=>{val:= .sl nb (.lit 0) te.size (.lit len) (.lit len),hO:= .new (.row nb true cs)}
    | none=>none
   | _=>none
  | _,_=>none
 | .load t x=>
  match a_ T t,ev x with
  | some ti,some a=>wv hp ti.k.agg ti.size a
  | _,_=>none
 | .store t x y=>
  match a_ T t,ev x,ev y with
  | some ti,some a,some v=>xx hp ti.size v a
  | _,_,_=>none
 | .nilCheck x=>
  match ev x with
  | some (.ptr b c)=>some {val:= .ptr b c}
  | some (.oJ b i s c)=>some {val:= .oJ b i s c}
  | some (.nH e)=>some {val:= .nH e,vcs:=[PN e]}
  | some (.pv v i s c)=>match dU hp v with
   | some (j,.bC _ _ _ _ n _)=>some {val:= .pv v i s c,vcs:=gN i n,rd:=[j]}
   | _=>none
  | some (.fn f cs)=>some {val:= .fn f cs}
  | _=>none
 | .binOp op t x y _=>
  match a_ T t,ev x,ev y with
  | some ti,some a,some b=>match yC ti op y a with
   | some r=>some r
   | none=>mo ti op a b
  | _,_,_=>none
 | .unOp op _ x=>
  match op,ev x with
  | .not,some (.bool b)=>some {val:= .bool (iZ b)}
  | .xor,some (.int k a)=>some {val:= .int k (tI .ay k (.lit (if s7 k then -1 else IntKind.hi k)) a)}
  | .neg,some (.int k a)=>some {val:= .int k (xB k (tH (.lit 0) a)).1,vcs:=(xB k (tH (.lit 0) a)).2}
  | _,_=>none
 | .convert src dst x=>
  match a_ T src,a_ T dst,ev x with
  | some _,some ti,some (.int _ a)=>
   match ti.k with
   | .int k=>some {val:= .int k (xC k a).1,vcs:=(xC k a).2}
   | _=>none
  | some ts,some ti,some (.str l)=>if ts.k= .str then bytesOf T nv ti.k (.str l)else none
  | some ts,some ti,some (.kg s)=>if ts.k= .str then bytesOf T nv ti.k (.kg s)else none
  | some _,some ti,some (.sl b i s n m)=>
   match ti.k with
   | .slice e=>
    match a_ T e,findAt hp b with
    | some te,some (j,.row b' true cs)=>if src=dst∧te.k= .int .u8 then some {val:= .sl b i s n m,rd:=[j],hO:= .set j (.row b' false cs)}else none
    | _,_=>none
   | .str=>ns T hp src (.sl b i s n m)
   | _=>none
  | some _,some ti,some (.vv v)=>if ti.k= .str then ns T hp src (.vv v)else none
  | some _,some ti,some (.jP v cs s)=>if ti.k= .str then ns T hp src (.jP v cs s)else none
  | some _,some ti,some .b_=>if ti.k= .str then ns T hp src .b_ else none
  | _,_,_=>none
 | .makeInterface t x=>
  match a_ T t,ev x with
  | some ti,some (.int k e)=>if ti.k= .int k then some {val:= .L6 t k e}else none
  | _,_=>none
 | .sliceToArrayPointer arr x=>
  match a_ T arr,ev x with
  | some ta,some v=>
   match ta.k with
   | .arr n e=>
    match a_ T e with
    | some _=>
     if n=0 then none else
     match v with
     | .sl b i s m _=>some {val:=DP b i s 0,vcs:=dJ (.lit n) m}
     | v=>
      match fE hp v with
      | some r=>some {val:= .pv r.v r.p.lo r.s 0,vcs:=r.vcs++dJ (.lit n) r.p.len,rd:=[r.j]}
      | none=>none
    | none=>none
   | _=>none
  | _,_=>none
 | .fieldAddr s x f=>
  match a_ T s,ev x with
  | some ts,some a=>
   match ts.k with
   | .struct fs=>
    match fs[f]? with
    | some (t,off)=>
     match a_ T t with
     | some ti=>if ti.size=0 then none else
      match a with
      | .ptr b c=>some {val:= .ptr b (c+off)}
      | .oJ b i s c=>some {val:= .oJ b i s (c+off)}
      | .pv v i s c=>
       match dU hp v with
       | some (j,.bC _ _ _ _ n _)=>some {val:= .pv v i s (c+off),vcs:=gN i n,rd:=[j]}
       | _=>none
      | _=>none
     | none=>none
    | none=>none
   | _=>none
  | _,_=>none
 | .field s x f=>
  match a_ T s,ev x with
  | some ts,some (.agg cs)=>
   match ts.k with
   | .struct fs=>
    match fs[f]? with
    | some (t,off)=>
     match a_ T t with
     | some ti=>
      match i_ off ti.size cs with
      | some x=>(iz ti.k.agg x).map fun v=>{val:=v}
      | none=>none
     | none=>none
    | none=>none
   | _=>none
  | _,_=>none
 | .indexAddr t x y=>
  match a_ T t,ev x,ev y with
  | some tt,some a,some (.int _ j)=>
   match tt.k with
   | .slice e=>
    match a_ T e with
    | some te=>
     match a with
     | .sl b i s n _=>if te.size=s then some {val:=DP b (dB i j) s 0,vcs:=nP i++gN j n}else none
     | a=>
      match fE hp a with
      | some r=>if te.size=r.s then some {val:= .pv r.v (dB r.p.lo j) r.s 0,vcs:=r.vcs++gN j r.p.len,rd:=[r.j]}else none
      | none=>none
    | none=>none
   | .arr n e=>
    match a_ T e with
    | some te=>
     match a with
     | .ptr b c=>some {val:=DP b j te.size c,vcs:=gN j (.lit n)}
     | _=>none
    | none=>none
   | _=>none
  | _,_,_=>none
 | .index t x y=>
  match a_ T t,ev x,ev y with
  | some tt,some (.agg cs),some (.int _ j)=>
   match tt.k with
   | .arr n e=>
    match a_ T e with
    | some te=>
     match fe j with
     | some l=>if l<n then(match i_ (l*te.size) te.size cs with
      | some x=>(iz te.k.agg x).map fun v=>{val:=v}
      | none=>none)else none
     | none=>
      match cs with
      | [.cE k m a]=>if m=n∧te.size=1∧te.k.agg=false then some {val:= .int k (gl a j),vcs:=gN j (.lit n)}else none
      | _=>none
    | none=>none
   | _=>none
  | some tt,some v,some (.int _ j)=>if tt.k= .str then G9 v j else none
  | _,_,_=>none
 | .extract x i=>
  match ev x with
  | some (.rR vs)=>(vs[i]?).map fun v=>{val:=v}
  | _=>none
 | .makeFunc fn first caps=>
  match fn,first.toList with
  | .func f,[]=>(jc (caps.toList.map ev)).map fun cs=>{val:= .fn f cs}
  | _,_=>none
 | .call c=>
  match c.callee,c.args.toList,c.argTypes.toList with
  | .builtin .len,[x],[t]=>
   match a_ T t,ev x with
   | some tt,some v=>G_ hp tt.k v
   | _,_=>none
  | .builtin .cap,[x],[t]=>
   match a_ T t,ev x with
   | some tt,some .b_=>match tt.k with
    | .slice _=>some {val:= .int .i64 (.lit 0)}
    | _=>none
   | _,_=>none
  | .builtin .max,[x,y],_=>
   match ev x,ev y with
   | some (.int k a),some (.int _ b)=>some {val:= .int k (tI .imax k a b)}
   | _,_=>none
  | .builtin .min,[x,y],_=>
   match ev x,ev y with
   | some (.int k a),some (.int _ b)=>some {val:= .int k (tI .tE k a b)}
   | _,_=>none
  | .builtin .append,[x,y],[ts,UT]=>
   match a_ T ts,ev x,ev y with
   | some tt,some x,some y=>uu T hp nv tt ts UT x y
   | _,_,_=>none
  | .builtin .clear,[x],[t]=>
   match a_ T t,ev x with
   | some tt,some v=>yB T hp tt.k v
   | _,_=>none
  | .builtin .copy,[x,y],[ts,UT]=>
   match a_ T ts,ev x,ev y with
   | some tt,some x,some y=>if ts=UT then Cu T hp tt.k x y else none
   | _,_,_=>none
  | _,_,_=>none
 | .slice t x lo hi mx=>
  match a_ T t,ev x,xH look lo,xH look hi,xH look mx with
  | some tt,some v,some l,some h,some m=>if tt.k= .str then(if m.isSome then none else yA v l h)else xK T hp tt.k v l h m
  | _,_,_,_,_=>none
 | .makeMap t none=>rA T nb t
 | .lookup t x k comma=>
  match ev x,ev k with
  | some x,some k=>tU T hp t x k comma
  | _,_=>none
 | .insert t x k v=>
  match ev x,ev k,ev v with
  | some x,some k,some v=>tV T hp t x k v
  | _,_,_=>none
 | .makeSlice t n c=>
  match a_ T t,ev n,ev c with
  | some tt,some (.int _ n),some (.int _ c)=>Cv T nv tt.k n c
  | _,_,_=>none
 | _=>none
end Go.RX
