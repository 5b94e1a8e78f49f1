/- Executor. -/
import Derived.Test.YtllcdnkfbeokhaaGreatM00
namespace Go.RX
inductive CK where
 | int (k:IntKind) | bool | val (i:Nat) | ptr | bW | str | cv | Lr (l:List Nat) | pt (i:E) (v:Nat)
 deriving DecidableEq,Repr
structure bU where
 ck:CK
 w:Nat
 a:E
 deriving DecidableEq,Repr
inductive Jump where
 | none | ret | exit (id:Nat)
 deriving DecidableEq,Repr
def Jump.code:Jump->Option Code
 | .none=>Option.none
 | .ret=>some .ret
 | .exit id=>some (.exit id)
inductive RS where
 | ready | busy | done | exhausted
 deriving DecidableEq,Repr
def RS.st:RS->LoopState
 | .ready=> .ready
 | .busy=> .busy
 | .done=> .done
 | .exhausted=> .exhausted
inductive Ck where
 | emp
 | row (b:Nat) (wr:Bool) (cs:List SV)
 | cF (md:Bool) (v t s:Nat) (n:E) (aB:List bU)
 | abs (i:Nat)
 | mY (l r:Nat) (s:RS) (j:Jump)
 | NP (b:Nat)
 | vT (b:Nat)
 | map (b:Nat) (kl:List IntKind) (ka va:Bool) (zero:List SV) (has:E) (aB:List bU)
 | vK (b:Nat) (kl:List IntKind) (ka va:Bool) (zero:List SV) (es:List (Nat×List SV))
 | Lq (b t e:Nat) (n a:E)
 | PY (b:Nat) (l:List UInt8) (pos:Nat)
 | QN (b m:Nat)
 deriving Repr,Inhabited
def ax(k:IntKind)(w:Nat)(f:Nat->Int)(i:Nat):List Value:=aj k w λj=>f (i*w+j)
def cR(w:Nat)(f:Nat->Int)(i:Nat):List Value:=(List.range w).map λj=> .bool (!(f (i*w+j)==0))
def cV(w:Nat)(f:Nat->Value)(i:Nat):List Value:=(List.range w).map λj=>f (i*w+j)
def vF(w:Nat)(f:Nat->Int)(i:Nat):List Value:=(List.range w).map λj=>dr (f (i*w+j))
def bU.cells(ρ:Env)(c:bU):Nat->List Value:=
 match c.ck with
 | .int k=>ax k c.w (c.a.den ρ)
 | .bool=>cR c.w (c.a.den ρ)
 | .val v=>cV c.w λj=>((ρ.va.getD v λ_=>V1.nil) j).v
 | .ptr=>vF c.w (c.a.den ρ)
 | .bW=>cV c.w λ_=> .slice none 0 0
 | .str=>cV c.w λj=> .string ⟨(eB (rK (c.a.den ρ) j)).toArray⟩
 | .cv=>cV c.w λj=>bg (c.a.den ρ j)
 | .Lr l=>cV c.w λj=>((l[j]?).elim V1.nil λn=>ρ.vv.getD n V1.nil).v
 | .pt i v=>cV c.w λj=>if j=(i.den ρ 0).toNat then(ρ.vv.getD v V1.nil).v else bg (c.a.den ρ j)
def aG(n:Nat)(cs:List (Nat->List Value)):List Value:=(List.range n).flatMap λi=>cs.flatMap λc=>c i
def aL(ρ:Env)(n:Nat)(aB:List bU):List Value:=aG n (aB.map (bU.cells ρ))
def oP(es:List (Nat×List SV))(zero:List SV)(k:Nat):List SV:=
 match es with
 | []=>zero
 | (i,v)::r=>if i=k then v else oP r zero k
def r8(es:List (Nat×List SV))(k:Nat):Bool:=
 match es with
 | []=>false
 | (i,_)::r=>if i=k then true else r8 r k
def jB(k:Nat)(v:List SV):List (Nat×List SV)->List (Nat×List SV)
 | []=>[(k,v)]
 | (i,u)::r=>if i=k then(k,v)::r else(i,u)::jB k v r
def Yo(es:List (Nat×List Value))(zero:List Value)(k:Nat):List Value:=
 match es with
 | []=>zero
 | (i,v)::r=>if i=k then v else Yo r zero k
def FD(ρ:Env)(es:List (Nat×List SV)):List (Nat×List Value):=
 match es with
 | []=>[]
 | (i,v)::r=>(i,SV.aq ρ v)::FD ρ r
theorem M0(ρ:Env)(zero:List SV)(k:Nat): ∀es:List (Nat×List SV),Yo (FD ρ es) (SV.aq ρ zero) k=SV.aq ρ (oP es zero k)
 | []=>rfl
 | (i,v)::r=>by simp only[FD,Yo,oP];split<;>first | rfl | exact M0 ρ zero k r
def j6:Loop:=⟨.ready,none,0,#[],#[],.skip,.skip,0⟩
noncomputable def Ck.den(ρ:Env):Ck->HP
 | .emp=>HP.emp
 | .row b wr cs=>ak (ρ.bv.getD b 0) wr (SV.aq ρ cs)
 | .cF md v t s n aB=>aA md t s (ρ.vv.getD v V1.nil).v (n.den ρ 0).toNat (aL ρ (n.den ρ 0).toNat aB)
 | .abs i=>ρ.pv.getD i HP.emp
 | .mY l r s j=>Qw (ρ.bv.getD l 0) {ρ.lr.getD r j6 with state:=s.st,pending:=j.code}
 | .NP b=>Az (ρ.bv.getD b 0)
 | .vT b=>mV (rS (ρ.bv.getD b 0))
 | .map b kl ka va zero has aB=>pA (ρ.bv.getD b 0) kl ka va (SV.aq ρ zero) (has.den ρ) λi=>(aB.map (bU.cells ρ)).flatMap λc=>c i
 | .vK b kl ka va zero es=>vB (ρ.bv.getD b 0) kl ka va (SV.aq ρ zero) (λi=>r8 es i) λi=>Yo (FD ρ es) (SV.aq ρ zero) i
 | .Lq b t e n a=>YH (ρ.bv.getD b 0) t e (aj .u8 (n.den ρ 0).toNat (a.den ρ))
 | .PY b l pos=>YF (ρ.bv.getD b 0) l pos
 | .QN b m=>YG (ρ.bv.getD b 0) (ρ.bv.getD m 0)
theorem Ck.mJ(ρ:Env)(b:Nat)(kl:List IntKind)(ka va:Bool)(zero:List SV)(es:List (Nat×List SV)):
  Ck.den ρ (.vK b kl ka va zero es)=vB (ρ.bv.getD b 0) kl ka va (SV.aq ρ zero) (λi=>r8 es i) λi=>SV.aq ρ (oP es zero i):=by
 simp only[Ck.den,M0]
inductive TK where
 | int (k:IntKind) | bool | str | ptr (e:Nat) | slice (e:Nat) | arr (n e:Nat) | struct (fs:List (Nat×Nat)) | map (k e:Nat) | func | iface | Lq (fs:List (Nat×Nat)) (e:Nat)
 deriving DecidableEq,Repr
abbrev jt:=Option IntKind
structure TI where
 t:Nat
 k:TK
 size:Nat
 bytes:Nat
 zero:List SV
 lay:List (jt×Nat):=[]
 deriving Repr
def mF:List (jt×Nat)->List jt
 | []=>[]
 | (k,n)::r=>List.replicate n k++mF r
def r7:List SV->List jt->Bool
 | [],[]=>true
 | .int k _::r,some k'::l=>k==k'&&r7 r l
 | .bool _::r,none::l=>r7 r l
 | .jD k n _::r,l=>decide (n<=l.length)&&(l.take n).all (· ==some k)&&r7 r (l.drop n)
 | _,_=>false
def aV(T:List TI)(t:Nat):Option TI:=T.find? λi=>i.t==t
def TK.agg:TK->Bool
 | .arr .. =>true
 | .struct _=>true
 | .Lq .. =>true
 | _=>false
def fl:E->E->E
 | .lit a,.lit b=> .lit (a+b)
 | .lit 0,b=>b
 | a,.lit 0=>a
 | a,b=> .bin .add .i64 a b
def xx:E->E->E
 | .lit a,.lit b=> .lit (a - b)
 | a,.lit 0=>a
 | a,b=> .bin .sub .i64 a b
def rT:E->E->E
 | .lit a,.lit b=> .lit (a*b)
 | .lit 1,b=>b
 | a,.lit 1=>a
 | a,b=> .bin .mul .i64 a b
def n_:E->E->E
 | a,.lit 0=>a
 | .lit n,_=> .lit n
 | a,o=> .shift a o
def E.aem:E->Bool
 | .lit _=>true
 | .var _=>true
 | .Vh .. =>true
 | .bin .. =>true
 | .wrap .. =>true
 | .kc .. =>true
 | .uv _=>true
 | _=>false
def Ei(v:E):E:=if v.aem then v else .Vh v (.lit 0)
def Ej:E->E->E
 | .lit n,_=> .lit n
 | .rQ a (.lit j) s,.lit i=>if i.toNat=j.toNat then s else Ej a (.lit i)
 | .rQ a j s,i=>if i=j then s else .VI (.rQ a j s) i
 | a,i=> .VI a i
def fc:E->E->E
 | .lit n,_=> .lit n
 | .tH l,.lit i=> .lit (l.getD i.toNat 0)
 | .oL b (.lit j) v,.lit i=>if i.toNat=j.toNat then Ei v else fc b (.lit i)
 | .shift b (.lit o),.lit i=>fc b (.lit (o.toNat+i.toNat:Nat))
 | .jA b (.lit o) (.lit n) x,.lit i=>if o.toNat<=i.toNat/\i.toNat<o.toNat+n.toNat then fc x (.lit (i.toNat - o.toNat:Nat))else fc b (.lit i)
 | .oL b i v,i'=>if i=i' then Ei v else .Vh (.oL b i v) i'
 | a,i=> .Vh a i
def uA(o:IOp)(k:IntKind):E->E->E
 | .lit a,.lit b=> .lit (ar o k a b)
 | a,b=> .bin o k a b
def QC(k:IntKind):E->E
 | .lit a=> .lit (k.wrap a)
 | a=> .wrap k a
def VO:E->BE
 | .lit n=> .lit (!(n==0))
 | a=> .nz a
def Vi:E->E->BE
 | .lit a,.lit b=> .lit (a==b)
 | a,b=>if a=b then .lit true else .eq a b
def Jv:E->E->BE
 | .lit a,.lit b=> .lit (decide (a<b))
 | a,b=> .lt a b
def zy:E->E->BE
 | .lit a,.lit b=> .lit (decide (a<=b))
 | a,b=> .le a b
def kp:BE->BE
 | .lit b=> .lit (!b)
 | .not b=>b
 | b=> .not b
def CR:BE->BE->BE
 | .lit true,b=>b
 | .lit false,_=> .lit false
 | a,.lit true=>a
 | a,b=> .and a b
def bOr:BE->BE->BE
 | .lit false,b=>b
 | .lit true,_=> .lit true
 | a,.lit false=>a
 | a,b=> .or a b
def Gi:BE->BE->BE->BE
 | .lit true,a,_=>a
 | .lit false,_,b=>b
 | c,.lit true,b=>bOr c b
 | c,a,.lit false=>CR c a
 | c,a,b=> .ite c a b
def Gd(l:List UInt8):E:= .tH ((l.length:Int)::l.map λb=>((b.toNat:Nat):Int))
def rU:SV->Option E
 | .str l=>some (Gd l)
 | .nX s=>some s
 | _=>none
def mkStr:E->SV
 | .tH (n::l)=>if(n==(l.length:Int))&&l.all (λb=>decide (0<=b)&&decide (b<256))then .str (l.map λb=>UInt8.ofNat b.toNat)else .nX (.tH (n::l))
 | s=> .nX s
def oa(s:E):E:=fc s (.lit 0)
def Np:E->E
 | .tH (n::l)=>if l.all (λb=>decide (0<=b)&&decide (b<256))then .tH l else .YC (.tH (n::l))
 | s=> .YC s
def uz(a n:E):E:= .oL (.jA (.lit 0) (.lit 1) n a) (.lit 0) n
def Nr(s t:E):E:= .oL (.jA s (fl (oa s) (.lit 1)) (oa t) (n_ t (.lit 1))) (.lit 0) (fl (oa s) (oa t))
def VN(a b:E):BE:=if a=b then .lit true else .seq a b
mutual
def SV.width:SV->Nat
 | .jD _ n _=>n
 | .agg cs=>SV.qQ cs
 | _=>1
def SV.qQ:List SV->Nat
 | []=>0
 | v::r=>SV.width v+SV.qQ r
end
abbrev lF(cs:List SV):Nat:=SV.qQ cs
def ib:Nat->List SV->Option (List SV)
 | 0,cs=>some cs
 | _+1,[]=>some []
 | _+1,.agg _::_=>none
 | d+1,.jD k n a::r=>if d+1<n then some (.jD k (n - (d+1)) (n_ a (.lit (d+1:Nat)))::r)else ib (d+1 - n) r
 | d+1,_::r=>ib d r
def jO:Nat->List SV->Option (List SV)
 | 0,_=>some []
 | _+1,[]=>some []
 | _+1,.agg _::_=>none
 | d+1,.jD k n a::r=>if d+1<=n then some [.jD k (d+1) a]else(jO (d+1 - n) r).map (.jD k n a:: ·)
 | d+1,v::r=>(jO d r).map (v:: ·)
def kK(c size:Nat)(cs:List SV):Option (List SV):=
 if c+size<=lF cs then
  match ib c cs with
  | some r=>jO size r
  | none=>none
 else none
def xy(c:Nat)(vs cs:List SV):Option (List SV):=
 if c+lF vs<=lF cs then
  match jO c cs,ib (c+lF vs) cs with
  | some a,some b=>some (a++vs++b)
  | _,_=>none
 else none
def jP(agg:Bool)(cs:List SV):Option SV:=
 if agg then some (.agg cs)else
 match cs with
 | [.jD k 1 a]=>some (.int k (fc a (.lit 0)))
 | [.jD ..]=>none
 | [.agg _]=>none
 | [v]=>some v
 | _=>none
def SV.one:SV->Bool
 | .agg _=>false
 | .opt .. =>false
 | .undef=>false
 | .oH _=>false
 | _=>true
def fA:SV->Option (List SV)
 | .agg cs=>if cs.all SV.one then some cs else none
 | v=>if v.one then some [v]else none
mutual
def ofValue:Value->Option SV
 | .int k n=>some (.int k (.lit n))
 | .bool b=>some (.bool (.lit b))
 | .pointer none=>some .iy
 | .slice none 0 0=>some .bW
 | .nilFunc=>some .qK
 | .nilIface=>some .pT
 | .map none=>some .oM
 | .string ⟨⟨l⟩⟩=>some (.str l)
 | .tuple ⟨[]⟩=>some .undef
 | .agg ⟨l⟩=>(ofValues l).map .agg
 | _=>none
def ofValues:List Value->Option (List SV)
 | []=>some []
 | .agg _::_=>none
 | v::r=>match ofValue v,ofValues r with
  | some x,some xs=>some (x::xs)
  | _,_=>none
end
def kO(look:Nat->Option SV):Operand->Option SV
 | .tmp t=>look t
 | .const v=>ofValue v
 | .global _=>none
 | .func f=>some (.fn f [])
def Ck.xA(b:Nat):Ck->Bool
 | .row b' _ _=>b==b'
 | _=>false
def Ck.og(v:Nat):Ck->Bool
 | .cF _ v' _ _ _ _=>v==v'
 | _=>false
def findAt(hp:List Ck)(b:Nat):Option (Nat×Ck):=
 match hp.findIdx? (Ck.xA b)with
 | some i=>(hp[i]?).map λc=>(i,c)
 | none=>none
def fC(hp:List Ck)(v:Nat):Option (Nat×Ck):=
 match hp.findIdx? (Ck.og v)with
 | some i=>(hp[i]?).map λc=>(i,c)
 | none=>none
def ju(i n:E):List BE:=
 [zy (.lit 0) i,Jv i n].filter λb=>b != .lit true
def mkP:E->SV
 | .uv b=> .ptr b 0
 | .lit n=>if n=0 then .iy else .j9 (.lit n)
 | e=> .j9 e
def iH:E->Option Nat
 | .lit (.ofNat n)=>some n
 | _=>none
def El(c:bU)(i:E):Option SV:=
 match c.ck with
 | .int k=>if c.w=1 then some (.int k (fc c.a i))else some (.jD k c.w (n_ c.a (rT i (.lit c.w))))
 | .bool=>if c.w=1 then some (.bool (VO (fc c.a i)))else none
 | .val v=>if c.w=1 then some (.Gb v i)else none
 | .ptr=>if c.w=1 then some (mkP (fc c.a i))else none
 | .bW=>if c.w=1 then some .bW else none
 | .str=>if c.w=1 then some (mkStr (Ej c.a i))else none
 | .cv=>if c.w=1 then some (.Jq (fc c.a i))else none
 | .Lr l=>match iH i with
  | some k=>match l[k]? with
   | some n=>if c.w=1 then some (.vv n)else none
   | none=>none
  | none=>none
 | .pt j v=>if c.w=1/\j=i then some (.vv v)else none
def p_(i:E):List bU->Option (List SV)
 | []=>some []
 | c::r=>match El c i,p_ i r with
  | some x,some xs=>some (x::xs)
  | _,_=>none
def cm(aB:List bU):Nat:=(aB.map bU.w).sum
def Eo(i:E)(v:SV)(c:bU):Option bU:=
 match c.ck,v with
 | .int k,.int k' e=>if c.w=1/\k=k' then some {c with a:= .oL c.a i e}else none
 | .int k,.jD k' n b=>if c.w=n/\k=k' then some {c with a:= .jA c.a (rT i (.lit n)) (.lit n) b}else none
 | .bool,.bool (.lit x)=>if c.w=1 then some {c with a:= .oL c.a i (.lit (if x then 1 else 0))}else none
 | .bool,.bool (.nz e)=>if c.w=1 then some {c with a:= .oL c.a i e}else none
 | .ptr,.ptr b o=>if c.w=1/\o=0 then some {c with a:= .oL c.a i (.uv b)}else none
 | .ptr,.iy=>if c.w=1 then some {c with a:= .oL c.a i (.lit 0)}else none
 | .ptr,.j9 e=>if c.w=1 then some {c with a:= .oL c.a i e}else none
 | .bW,.bW=>if c.w=1 then some c else none
 | .str,.str l=>if c.w=1 then some {c with a:= .rQ c.a i (Gd l)}else none
 | .str,.nX s=>if c.w=1 then some {c with a:= .rQ c.a i s}else none
 | .cv,.Jq e=>if c.w=1 then some {c with a:= .oL c.a i e}else none
 | .cv,.bW=>if c.w=1 then some {c with a:= .oL c.a i (.lit 0)}else none
 | .cv,.vv v=>if c.w=1 then some {c with ck:= .pt i v}else none
 | .pt j _,.vv v=>if c.w=1/\j=i then some {c with ck:= .pt j v}else none
 | _,_=>none
def yE:Nat->E->List SV->Option (List IntKind×E)
 | _,acc,[]=>some ([],acc)
 | o,acc,.int k e::r=>match yE (o+1) (.oL acc (.lit o) e) r with
  | some (l,a)=>some (k::l,a)
  | none=>none
 | o,acc,.jD k n b::r=>match yE (o+n) (.jA acc (.lit o) (.lit n) b) r with
  | some (l,a)=>some (List.replicate n k++l,a)
  | none=>none
 | _,_,_=>none
def rowOf(cs:List SV):Option (List IntKind×E):=
 match cs with
 | [.jD k n a]=>some (List.replicate n k,a)
 | [.int k e]=>some ([k],e)
 | cs=>yE 0 (.lit 0) cs
def align:List bU->List SV->Option (List SV)
 | _,[]=>some []
 | [],v::r=>some (v::r)
 | c::aB,v::r=>
  if v.width=c.w then(align aB r).map (v:: ·)else
  match c.ck,kK 0 c.w (v::r),ib c.w (v::r)with
  | .int k,some x,some rest=>
   match rowOf x with
   | some (kl,a)=>if kl=List.replicate c.w k then(align aB rest).map (.jD k c.w a:: ·)else none
   | none=>none
  | _,_,_=>none
def qg(i:E):List SV->List bU->Option (List bU)
 | [],aB=>some aB
 | v::r,c::aB=>match Eo i v c,qg i r aB with
  | some c',some aS=>some (c'::aS)
  | _,_=>none
 | _::_,[]=>none
def mz(i:E)(vs:List SV)(aB:List bU):Option (List bU):=
 match align aB vs with
 | some I9=>qg i I9 aB
 | none=>none
def qh(i:E)(vs:List SV):Nat->List bU->Option (List bU)
 | 0,aB=>mz i vs aB
 | _+1,[]=>none
 | o+1,c::r=>if c.w<=o+1 then(qh i vs (o+1 - c.w) r).map (c:: ·)else none
def Ls(c:Nat)(cs:List SV):Option (List SV×IntKind×Nat×E×List SV):=
 if c<=lF cs then
  match ib c cs,jO c cs with
  | some (.jD k n a::r),some pre=>some (pre,k,n,a,r)
  | _,_=>none
 else none
inductive Bl where
 | none
 | new (ck:Ck)
 | set (i:Nat) (ck:Ck)
 | app (i:Nat) (ck:Ck)
 | own (ck:Ck)
 | Gr (ck:Ck)
 deriving Repr
structure jf where
 val:SV
 vcs:List BE:=[]
 rd:List Nat:=[]
 jE:Bl:= .none
 deriving Repr
def xB(o:BinOp)(x y:SV):Option jf:=
 match x,y with
 | .str a,.str b=>
  match o with
  | .add=>if a.length+b.length<=1000000 then some {val:= .str (a++b)}else none
  | .eql=>some {val:= .bool (.lit (a==b))}
  | .neq=>some {val:= .bool (.lit (!(a==b)))}
  | _=>none
 | x,y=>
  match rU x,rU y with
  | some a,some b=>
   match o with
   | .add=>some {val:= .nX (Nr a b),vcs:=M1 (oa a)++M1 (oa b)++[zy (fl (oa a) (oa b)) (.lit 9223372036854775807)]}
   | .eql=>some {val:= .bool (VN a b)}
   | .neq=>some {val:= .bool (kp (VN a b))}
   | _=>none
  | _,_=>none
 where M1 (b:E):List BE:=[zy (.lit 0) b].filter λb=>b != .lit true
def K4(v:SV)(j:E):Option jf:=
 match v with
 | .str l=>
  match j with
  | .lit (.ofNat i)=>if i<l.length then some {val:= .int .u8 (.lit (l.getD i 0).toNat)}else none
  | j=>some {val:= .int .u8 (fc (.tH (l.map λb=>((b.toNat:Nat):Int))) j),vcs:=[zy (.lit 0) j,Jv j (.lit l.length)].filter λb=>b != .lit true}
 | .nX s=>some {val:= .int .u8 (fc (Np s) j),vcs:=[zy (.lit 0) j,Jv j (oa s)].filter λb=>b != .lit true}
 | _=>none
def IT(_:SV)(_ _:Option E):Option jf:=none
structure cI where
 b:Nat:=0
 v:Nat:=0
 i:Nat:=0
 a:Nat:=0
 bo:Nat:=0
 p:Nat:=0
 r:Nat:=0
 deriving Repr,DecidableEq
def Gu(b:Nat)(i:E)(s c:Nat):SV:=
 match iH i with
 | some n=> .ptr b (n*s+c)
 | none=> .rL b i s c
def fD(a b:E):List BE:=if a=b then []else [zy a b].filter λb=>b != .lit true
def vH:Nat->E->List SV->Option E
 | _,acc,[]=>some acc
 | o,acc,.str l::r=>vH (o+1) (.rQ acc (.lit o) (Gd l)) r
 | o,acc,.nX s::r=>vH (o+1) (.rQ acc (.lit o) s) r
 | _,_,_=>none
def QG(cs:List SV):Option E:=vH 0 (.lit 0) cs
def zY(hp:List Ck)(agg:Bool)(size:Nat):SV->Option jf
 | .ptr b c=>
  match findAt hp b with
  | some (j,.row _ _ cs)=>
   match kK c size cs with
   | some x=>(jP agg x).map λv=>{val:=v,rd:=[j]}
   | none=>none
  | _=>none
 | .rL b i s c=>
  match findAt hp b with
  | some (j,.row _ _ cs)=>
   if s=1/\size=1/\agg=false then
    match Ls c cs with
    | some (_,k,n,a,_)=>some {val:= .int k (fc a i),vcs:=ju i (.lit n),rd:=[j]}
    | none=>if c=0 then match QG cs with
     | some a=>some {val:=mkStr (Ej a i),vcs:=ju i (.lit cs.length),rd:=[j]}
     | none=>none
     else none
   else none
  | _=>none
 | .pv v i s c=>
  match fC hp v with
  | some (j,.cF _ _ _ s' n aB)=>
   if s=s'/\s=cm aB then
    if s<size then
     match aB with
     | [⟨.int k,1,a⟩]=>if c=0/\agg=true then some {val:= .agg [.jD k size (n_ a i)],vcs:=fD (.lit 0) i++fD (fl i (.lit size)) n,rd:=[j]}else none
     | _=>none
    else
    match p_ i aB with
    | some es=>match kK c size es with
     | some y=>(jP agg y).map λx=>{val:=x,vcs:=ju i n,rd:=[j]}
     | none=>none
    | none=>none
   else none
  | _=>none
 | _=>none
def AJ(hp:List Ck)(size:Nat)(v:SV):SV->Option jf
 | .ptr b c=>
  match findAt hp b,fA v with
  | some (j,.row b' true cs),some vs=>
   if lF vs=size then
    (xy c vs cs).map λqE=>{val:= .undef,rd:=[j],jE:= .set j (.row b' true qE)}
   else none
  | _,_=>none
 | .rL b i s c=>
  match findAt hp b,fA v with
  | some (j,.row b' true cs),some [.int k e]=>
   if s=1/\size=1 then
    match Ls c cs with
    | some (pre,k',n,a,post)=>if k=k' then some {val:= .undef,vcs:=ju i (.lit n),rd:=[j],jE:= .set j (.row b' true (pre++ .jD k n (.oL a i e)::post))}else none
    | none=>none
   else none
  | _,_=>none
 | .pv x i s c=>
  match fC hp x,fA v with
  | some (j,.cF true x' t s' n aB),some vs=>
   if s=s'/\s=cm aB/\0<size/\lF vs=size then
    (qh i vs c aB).map λaS=>{val:= .undef,vcs:=ju i n,rd:=[j],jE:= .set j (.cF true x' t s' n aS)}
   else none
  | _,_=>none
 | _=>none
def nr:List SV->List SV->Option BE
 | [],[]=>some (.lit true)
 | .int k a::r,.int k' b::r'=>if k=k' then(nr r r').map (CR (Vi a b))else none
 | .bool a::r,.bool b::r'=>(nr r r').map (CR (Gi a b (kp b)))
 | .jD k n a::r,.jD k' n' b::r'=>if k=k'/\n=n' then(nr r r').map (CR (if a=b then .lit true else .YD n a b))else none
 | _,_=>none
def iI:List SV->List SV
 | []=>[]
 | .jD k n a::r=>((List.range n).map λj:Nat=>SV.int k (fc a (.lit j)))++iI r
 | v::r=>v::iI r
def AN(a b:List SV):Option BE:=
 match nr a b with
 | some c=>some c
 | none=>nr (iI a) (iI b)
def ptrEq(k:TK)(x y:SV):Option BE:=
 match k,x,y with
 | .ptr _,.iy,.iy=>some (.lit true)
 | .ptr _,.iy,.ptr .. =>some (.lit false)
 | .ptr _,.ptr ..,.iy=>some (.lit false)
 | .ptr _,.iy,.rL .. =>some (.lit false)
 | .ptr _,.rL ..,.iy=>some (.lit false)
 | .ptr _,.iy,.j9 e=>some (Vi e (.lit 0))
 | .ptr _,.j9 e,.iy=>some (Vi e (.lit 0))
 | .slice _,.bW,.bW=>some (.lit true)
 | .slice _,.bW,.sl .. =>some (.lit false)
 | .slice _,.sl ..,.bW=>some (.lit false)
 | .func,.qK,.qK=>some (.lit true)
 | .func,.qK,.fn .. =>some (.lit false)
 | .func,.fn ..,.qK=>some (.lit false)
 | .func,.fm ..,.qK=>some (.lit false)
 | _,_,_=>none
def IntKind.lo:IntKind->Int
 | .i8=> -128 | .i16=> -32768 | .i32=> -2147483648 | .i64=> -9223372036854775808 | _=>0
def IntKind.hi:IntKind->Int
 | .i8=>127 | .i16=>32767 | .i32=>2147483647 | .i64=>9223372036854775807
 | .u8=>255 | .u16=>65535 | .u32=>4294967295 | .u64=>18446744073709551615
def xe:IntKind->Bool
 | .i8 | .i16 | .i32 | .i64=>true
 | _=>false
def AL(k:IntKind)(e:E):E×List BE:=
 match e with
 | .lit n=>(.lit (k.wrap n),[])
 | .bin .add _ (.wrap .i64 _) _=>(.wrap k e,[])
 | _=>if xe k then(e,[.le (.lit (IntKind.lo k)) e,.le e (.lit (IntKind.hi k))])else(.wrap k e,[])
def AM(k:IntKind)(e:E):E×List BE:=
 match e with
 | .wrap .u64 (.bin .sub .i64 (.lit 0) _)=>if xe k then(.wrap k e,[])else AL k e
 | _=>AL k e
def qS(b:E):List BE:=[zy (.lit 0) b].filter λb=>b != .lit true
def pB(ti:TI)(o:BinOp)(x y:SV):Option jf:=
 match x,y with
 | .int k a,.int k' b=>
  match o with
  | .shl=>some {val:= .int k (uA .shl k a b),vcs:=qS b}
  | .shr=>some {val:= .int k (uA .shr k a b),vcs:=qS b}
  | _=>
  if k≠k' then none else
  match o with
  | .add=>let (e,vc):=AL k (fl a b);some {val:= .int k e,vcs:=vc}
  | .sub=>let (e,vc):=AL k (xx a b);some {val:= .int k e,vcs:=vc}
  | .mul=>let (e,vc):=AL k (rT a b);some {val:= .int k e,vcs:=vc}
  | .quo=>some {val:= .int k (QC k (uA .quo k a b)),vcs:=[VO b]}
  | .rem=>some {val:= .int k (uA .rem k a b),vcs:=[VO b]}
  | .and=>some {val:= .int k (uA .gO k a b)}
  | .or=>some {val:= .int k (uA .cU k a b)}
  | .xor=>some {val:= .int k (uA .cQ k a b)}
  | .andNot=>some {val:= .int k (uA .VH k a b)}
  | .eql=>some {val:= .bool (Vi a b)}
  | .neq=>some {val:= .bool (kp (Vi a b))}
  | .lss=>some {val:= .bool (Jv a b)}
  | .leq=>some {val:= .bool (zy a b)}
  | .gtr=>some {val:= .bool (Jv b a)}
  | .geq=>some {val:= .bool (zy b a)}
  | _=>none
 | .bool a,.bool b=>
  if ti.k≠ .bool then none else
  match o with
  | .eql=>some {val:= .bool (Gi a b (kp b))}
  | .neq=>some {val:= .bool (kp (Gi a b (kp b)))}
  | _=>none
 | .agg a,.agg b=>
  if !ti.k.agg||ti.lay.isEmpty|| !(r7 a (mF ti.lay))|| !(r7 b (mF ti.lay))then none else
  match o,AN a b with
  | .eql,some c=>some {val:= .bool c}
  | .neq,some c=>some {val:= .bool (kp c)}
  | _,_=>none
 | a,b=>
  if ti.k= .str then xB o a b else
  match o,ptrEq ti.k a b with
  | .eql,some c=>some {val:= .bool c}
  | .neq,some c=>some {val:= .bool (kp c)}
  | _,_=>none
def mA(place:Nat->Option (Nat×Nat))(cells:List SV):List (Nat×List SV)->Option (List SV)
 | []=>some cells
 | (i,cs)::r=>
  match place i with
  | some (off,size)=>
   if lF cs=size then
    match xy off cs cells with
    | some adt=>mA place adt r
    | none=>none
   else none
  | none=>none
def jI(T:List TI)(fs:List (Nat×Nat))(i:Nat):Option (Nat×Nat):=
 match fs[i]? with
 | some (t,off)=>(aV T t).map λti=>(off,ti.size)
 | none=>none
def mh(size:Nat)(i:Nat):Option (Nat×Nat):=some (i*size,size)
def r_(T:List TI)(fs:List (Nat×Nat)):Bool:=fs.all λf=>(aV T f.1).isSome
def partsOf(look:Nat->Option SV):List (Nat×Operand)->Option (List (Nat×List SV))
 | []=>some []
 | (i,x)::r=>
  match kO look x,partsOf look r with
  | some v,some rest=>(fA v).map λcs=>(i,cs)::rest
  | _,_=>none
def kP:List (Option SV)->Option (List SV)
 | []=>some []
 | some v::r=>(kP r).map (v:: ·)
 | none::_=>none
def FE(c:BE)(a b:SV):Option SV:=
 match c with
 | .lit true=>some a
 | .lit false=>some b
 | c=>
  match a,b with
  | .bool x,.bool y=>some (.bool (Gi c x y))
  | .bool x,.opt g (.bool y)=>if g=kp c then some (.bool (Gi c x y))else none
  | .opt g (.bool x),.bool y=>if g=c then some (.bool (Gi c x y))else none
  | _,_=>none
structure Part where
 lo:E
 len:E
 mx:Option E
 deriving Repr
def oY(n:E)(p:Part)(c:Cut):Part×List BE:=
 (⟨fl p.lo c.lo,xx c.hi c.lo,match c.mx with | some m=>some (fl p.lo m) | none=>p.mx⟩,
  fD (.lit 0) c.lo++fD c.lo c.hi++
  match c.mx,p.mx with
  | none,none=>fD (fl p.lo c.hi) n
  | none,some m0=>fD (fl p.lo c.hi) m0
  | some m,none=>fD c.hi m++fD (fl p.lo m) n
  | some m,some m0=>fD c.hi m++fD (fl p.lo m) m0)
def uF(n:E):List Cut->Part->Part×List BE
 | [],p=>(p,[])
 | c::r,p=>((uF n r (oY n p c).1).1,(oY n p c).2++(uF n r (oY n p c).1).2)
structure Rt where
 j:Nat
 md:Bool
 v:Nat
 t:Nat
 s:Nat
 n:E
 aB:List bU
 p:Part
 vcs:List BE
def iJ(hp:List Ck):SV->Option Rt
 | .vv v=>match fC hp v with
  | some (j,.cF md _ t s n aB)=>some ⟨j,md,v,t,s,n,aB,⟨.lit 0,n,none⟩,[]⟩
  | _=>none
 | .kj v cs s'=>match fC hp v with
  | some (j,.cF md _ t s n aB)=>if s=s' then some ⟨j,md,v,t,s,n,aB,(uF n cs ⟨.lit 0,n,none⟩).1,(uF n cs ⟨.lit 0,n,none⟩).2⟩else none
  | _=>none
 | _=>none
def Ck.isMap(b:Nat):Ck->Bool
 | .map b' .. =>b==b'
 | .vK b' .. =>b==b'
 | _=>false
def nu(hp:List Ck)(b:Nat):Option (Nat×Ck):=
 match hp.findIdx? (Ck.isMap b)with
 | some i=>(hp[i]?).map λc=>(i,c)
 | none=>none
def K5(hp:List Ck)(k:TK)(v:SV):Option jf:=
 match k with
 | .map _ _=>
  match v with
  | .mp b=>
   match nu hp b with
   | some (j,.map _ _ _ _ _ has _)=>some {val:= .int .i64 (fc has (.lit 0)),rd:=[j]}
   | _=>none
  | .oM=>some {val:= .int .i64 (.lit 0)}
  | _=>none
 | .slice _=>
  match v with
  | .sl _ _ _ n _=>some {val:= .int .i64 n,vcs:=qS n}
  | .bW=>some {val:= .int .i64 (.lit 0)}
  | .vv v=>
   match fC hp v with
   | some (j,.cF _ _ _ _ n _)=>some {val:= .int .i64 n,vcs:=qS n,rd:=[j]}
   | _=>none
  | .kj v cs s=>
   match iJ hp (.kj v cs s)with
   | some r=>some {val:= .int .i64 r.p.len,vcs:=r.vcs++fD (.lit 0) r.p.len,rd:=[r.j]}
   | none=>none
  | _=>none
 | .str=>
  match v with
  | .str l=>some {val:= .int .i64 (.lit l.length)}
  | .nX s=>some {val:= .int .i64 (oa s),vcs:=qS (oa s)}
  | _=>none
 | _=>none
mutual
def yq(T:List TI):Nat->Nat->Option (List bU)
 | 0,_=>none
 | d+1,t=>
  match aV T t with
  | some {k:= .int k,.. }=>some [⟨.int k,1,.lit 0⟩]
  | some {k:= .bool,.. }=>some [⟨.bool,1,.lit 0⟩]
  | some {k:= .ptr _,.. }=>some [⟨.ptr,1,.lit 0⟩]
  | some {k:= .slice _,.. }=>some [⟨.bW,1,.lit 0⟩]
  | some {k:= .str,.. }=>some [⟨.str,1,.lit 0⟩]
  | some {k:= .arr n e,.. }=>match aV T e with
   | some {k:= .int k,.. }=>some [⟨.int k,n,.lit 0⟩]
   | _=>none
  | some {k:= .struct fs,.. }=>M3 T d fs
  | _=>none
def M3(T:List TI):Nat->List (Nat×Nat)->Option (List bU)
 | 0,_=>none
 | _+1,[]=>some []
 | d+1,(t,_)::r=>match yq T d t,M3 T d r with
  | some a,some b=>some (a++b)
  | _,_=>none
end
def yr(T:List TI)(hp:List Ck)(nv:Nat)(k:TK)(x y:SV):Option jf:=
 match x,y with
 | .vv v,.sl b i s m _=>
  match fC hp v,findAt hp b with
  | some (j,.cF true _ t s' n aB),some (j',.row _ _ cs)=>
   match mz n cs aB,aV T t with
   | some aS,some te=>
    if i= .lit 0/\m= .lit 1/\k= .slice t/\s=s'/\s=cm aB/\lF cs=s/\0<s/\cs.all SV.one=true/\te.size=s then
     some {val:= .vv nv,vcs:=qS n++[.le (.bin .mul .i64 (.bin .add .i64 n (.lit 1)) (.lit (max 1 te.bytes:Nat))) (.lit 140737488355328)],rd:=[j,j'],jE:= .app j (.cF true nv t s (fl n (.lit 1)) aS)}
    else none
   | _,_=>none
  | _,_=>none
 | .bW,.sl b i s m _=>
  match findAt hp b,k with
  | some (j',.row _ _ cs),.slice t=>
   match aV T t,yq T 30 t with
   | some te,some aB=>
    match mz (.lit 0) cs aB with
    | some aS=>
     if i= .lit 0/\m= .lit 1/\s=cm aB/\lF cs=s/\0<s/\cs.all SV.one=true/\te.size=s/\te.bytes<=140737488355328 then
      some {val:= .vv nv,rd:=[j'],jE:= .own (.cF true nv t s (.lit 1) aS)}
     else none
    | none=>none
   | _,_=>none
  | _,_=>none
 | _,_=>none
def AT(x:SV)(c:Cut)(s:Nat):Option SV:=
 match x with
 | .vv v=>some (.kj v [c] s)
 | .kj v cs s'=>if s=s' then some (.kj v (cs++[c]) s)else none
 | _=>none
def AV(T:List TI)(hp:List Ck)(k:TK)(x:SV)(lo hi mx:Option E):Option jf:=
 if mx.isSome&&hi.isNone then none else
 match k,x with
 | .slice e,.sl b i s n m=>
  match aV T e with
  | some te=>
   if te.size=s then
    let l:=lo.getD (.lit 0)
    let h:=hi.getD n
    let mm:=mx.getD m
    some {val:= .sl b (fl i l) s (xx h l) (xx mm l),vcs:=fD (.lit 0) i++fD (.lit 0) l++fD l h++fD h mm++fD mm m++fD (.lit 0) n++(if l= .lit 0 then []else [Jv l mm].filter λb=>b != .lit true)}
   else none
  | none=>none
 | .slice e,.bW=>
  match aV T e with
  | some _=>if lo.getD (.lit 0)= .lit 0/\hi.getD (.lit 0)= .lit 0/\mx.getD (.lit 0)= .lit 0 then some {val:= .bW}else none
  | none=>none
 | .slice e,x=>
  match aV T e,iJ hp x with
  | some te,some r=>
   if te.size=r.s then
    let c:Cut:=⟨lo.getD (.lit 0),hi.getD r.p.len,mx⟩
    match AT x c r.s with
    | some v=>some {val:=v,vcs:=r.vcs++(oY r.n r.p c).2,rd:=[r.j]}
    | none=>none
   else none
  | _,_=>none
 | .arr n e,.pv v i s c=>
  match aV T e,fC hp v,lo,hi,mx with
  | some _,some (j,.cF _ _ _ _ m _),none,none,none=>some {val:= .Qt v i s c n,vcs:=ju i m,rd:=[j]}
  | _,_,_,_,_=>none
 | .arr n e,.ptr b c=>
  match aV T e with
  | some te=>
   if te.size≠0/\c%te.size=0 then
    let l:=lo.getD (.lit 0)
    let h:=hi.getD (.lit n)
    let mm:=mx.getD (.lit n)
    some {val:= .sl b (fl (.lit (c/te.size:Nat)) l) te.size (xx h l) (xx mm l),vcs:=fD (.lit 0) l++fD l h++fD h mm++fD mm (.lit n)++(if l= .lit 0 then []else [Jv l mm].filter λb=>b != .lit true)}
   else none
  | none=>none
 | _,_=>none
def Gx(lo:E)(c:bU):Option bU:=
 match c.ck with
 | .val _=>if lo= .lit 0 then some c else none
 | .Lr _=>if lo= .lit 0 then some c else none
 | .pt _ _=>if lo= .lit 0 then some c else none
 | .str=>if lo= .lit 0 then some c else none
 | _=>some {c with a:=n_ c.a (rT lo (.lit c.w))}
def jU(lo:E):List bU->Option (List bU)
 | []=>some []
 | c::r=>match Gx lo c,jU lo r with
  | some a,some b=>some (a::b)
  | _,_=>none
def JG(at_ m:E)(d s:bU):Option bU:=
 if d.w≠s.w then none else
 match d.ck,s.ck with
 | .int k,.int k'=>if k=k' then some {d with a:= .jA d.a (rT at_ (.lit d.w)) (rT m (.lit d.w)) s.a}else none
 | .bool,.bool=>some {d with a:= .jA d.a (rT at_ (.lit d.w)) (rT m (.lit d.w)) s.a}
 | .ptr,.ptr=>some {d with a:= .jA d.a (rT at_ (.lit d.w)) (rT m (.lit d.w)) s.a}
 | .bW,.bW=>some d
 | .str,.str=>if m= .lit 1/\d.w=1 then some {d with a:= .rQ d.a at_ (Ej s.a (.lit 0))}else if m= .lit 0 then some d else none
 | _,_=>none
def kE(at_ m:E):List bU->List bU->Option (List bU)
 | [],[]=>some []
 | d::r,s::r'=>match JG at_ m d s,kE at_ m r r' with
  | some a,some b=>some (a::b)
  | _,_=>none
 | _,_=>none
structure Src where
 rd:List Nat
 vcs:List BE
 n:E
 aB:List bU
def vQ(s:Nat):Nat->Nat->List SV->List bU->Option (List bU)
 | 0,_,_,aB=>some aB
 | k+1,i,cs,aB=>
  match kK 0 s cs,ib s cs with
  | some a,some b=>match mz (.lit i) a aB with
   | some aS=>vQ s k (i+1) b aS
   | none=>none
  | _,_=>none
def GA(T:List TI)(hp:List Ck)(te:TI)(y:SV):Option Src:=
 match y with
 | .bW=>match yq T 30 te.t with
  | some aB=>if te.size=cm aB then some ⟨[],[],.lit 0,aB⟩else none
  | none=>none
 | .sl b i s m _=>
  match findAt hp b with
  | some (j,.row _ _ cs)=>
   if s≠te.size then none else
   match iH i,iH m with
   | some i0,some m0=>
    match kK (i0*s) (m0*s) cs with
    | some [.jD k N a]=>if s=1/\N=m0 then some ⟨[j],[],.lit m0,[⟨.int k,1,a⟩]⟩else none
    | some x=>
     if x.all SV.one then
      match yq T 30 te.t with
      | some aB=>if s=cm aB then(vQ s m0 0 x aB).map λaS=>⟨[j],[],.lit m0,aS⟩else none
      | none=>none
     else none
    | none=>none
   | _,_=>
    match cs with
    | [.jD k N a]=>if s=1 then some ⟨[j],fD (.lit 0) i++fD (.lit 0) m++fD (fl i m) (.lit N),m,[⟨.int k,1,n_ a i⟩]⟩else none
    | _=>none
  | _=>none
 | x=>
  match iJ hp x with
  | some r=>
   if r.s=te.size/\r.s=cm r.aB then
    (jU r.p.lo r.aB).map λaB=>⟨[r.j],r.vcs++fD (.lit 0) r.p.len,r.p.len,aB⟩
   else none
  | none=>none
def yu(n:E)(bytes:Nat):BE:=zy (rT n (.lit (max 1 bytes:Nat))) (.lit 140737488355328)
def UQ(y:SV)(v:Nat):Bool:=
 match y with
 | .vv v'=>v'==v
 | .kj v' _ _=>v'==v
 | _=>false
def Yp:SV->Bool
 | .kj _ [⟨_,hi,some m⟩] _=>hi==m
 | _=>false
def vf(T:List TI)(hp:List Ck)(nv:Nat)(k:TK)(x y:SV):Option jf:=
 match k with
 | .slice t=>
  match aV T t with
  | some te=>
   match GA T hp te y with
   | some sc=>
    if te.size=0 then none else
    match x with
    | .bW=>some {val:= .vv nv,vcs:=sc.vcs++fD (.lit 0) sc.n++[yu sc.n te.bytes],rd:=sc.rd,jE:= .own (.cF true nv t te.size sc.n sc.aB)}
    | .sl b i s n m=>
     match GA T hp te (.sl b i s n m),iH sc.n with
     | some x,some (_+1)=>
      if x.n=n/\n=m/\s=te.size then
       (kE n sc.n x.aB sc.aB).map λaS=>{val:= .vv nv,vcs:=x.vcs++sc.vcs++fD (.lit 0) n++[yu (fl n sc.n) te.bytes],rd:=x.rd++sc.rd,jE:= .own (.cF true nv t te.size (fl n sc.n) aS)}
      else none
     | _,_=>none
    | x=>
     match iJ hp x with
     | some r=>
      if r.t=t/\r.s=te.size/\r.s=cm r.aB/\r.md=true then
       if UQ y r.v&& !Yp x then
        match x,kE (fl r.p.lo r.p.len) sc.n r.aB sc.aB with
        | .kj v [⟨lo,hi,none⟩] s,some aS=>
         some {val:= .kj v [⟨lo,fl hi sc.n,none⟩] s,vcs:=r.vcs++sc.vcs++fD (.lit 0) sc.n++fD (fl hi sc.n) r.n,rd:=r.j::sc.rd,jE:= .set r.j (.cF true r.v t r.s r.n aS)}
        | _,_=>none
       else
        match jU r.p.lo r.aB with
        | some rc=>
         match (if r.p.len= .lit 0 then some sc.aB else kE r.p.len sc.n rc sc.aB)with
         | some aS=>
          some {val:= .vv nv,vcs:=r.vcs++sc.vcs++fD (.lit 0) r.p.len++fD (.lit 0) sc.n++[yu (fl r.p.len sc.n) te.bytes],rd:=r.j::sc.rd,jE:= .app r.j (.cF true nv t r.s (fl r.p.len sc.n) aS)}
         | none=>none
        | none=>none
      else none
     | none=>none
   | none=>none
  | none=>none
 | _=>none
def lN:List SV->List bU->Bool
 | [],[]=>true
 | .int k (.lit 0)::r,⟨.int k',w,.lit 0⟩::aB=>k==k'&&w==1&&lN r aB
 | .bool (.lit false)::r,⟨.bool,w,.lit 0⟩::aB=>w==1&&lN r aB
 | .jD k n (.lit 0)::r,⟨.int k',w,.lit 0⟩::aB=>k==k'&&w==n&&lN r aB
 | .iy::r,⟨.ptr,w,.lit 0⟩::aB=>w==1&&lN r aB
 | .bW::r,⟨.bW,w,_⟩::aB=>w==1&&lN r aB
 | .str []::r,⟨.str,w,.lit 0⟩::aB=>w==1&&lN r aB
 | _,_=>false
def lO(T:List TI)(te:TI):Option (List bU):=
 match yq T 30 te.t with
 | some aB=>if lN te.zero aB&&cm aB==te.size&& !(te.size==0)then some aB else none
 | none=>none
def Ch(T:List TI)(hp:List Ck)(k:TK)(x:SV):Option jf:=
 match k,x with
 | .slice _,.bW=>some {val:= .undef}
 | .slice e,x=>
  match aV T e,iJ hp x with
  | some te,some r=>
   match lO T te with
   | some z=>
    if r.s=te.size/\r.s=cm r.aB/\r.md=true then
     (kE r.p.lo r.p.len r.aB z).map λaS=>{val:= .undef,vcs:=r.vcs++fD (.lit 0) r.p.len,rd:=[r.j],jE:= .set r.j (.cF true r.v r.t r.s r.n aS)}
    else none
   | none=>none
  | _,_=>none
 | _,_=>none
def rA:E->E->E
 | .lit a,.lit b=> .lit (min a b)
 | a,b=>if a=b then a else .bin .jl .i64 a b
def FF(T:List TI)(hp:List Ck)(k:TK)(x y:SV):Option jf:=
 match k with
 | .slice t=>
  match aV T t with
  | some te=>
   match GA T hp te y with
   | some sc=>
    match x with
    | .sl b i s n _=>
     match findAt hp b with
     | some (j,.row b' true cs)=>
      if s≠te.size\/s=0 then none else
      match cs with
      | [.jD k N a]=>
       match sc.aB with
       | [⟨.int k',1,a'⟩]=>
        if s=1/\k=k' then
         some {val:= .int .i64 (rA sc.n n),vcs:=sc.vcs++fD (.lit 0) sc.n++fD (.lit 0) i++fD (.lit 0) n++fD (fl i n) (.lit N),rd:=j::sc.rd,jE:= .set j (.row b' true [.jD k N (.jA a i (rA sc.n n) a')])}
        else none
       | _=>none
      | _=>
       match iH i,iH n,iH sc.n,sc.aB with
       | some i0,some n0,some m0,[⟨.int k',1,a'⟩]=>
        if s=1 then
         (xy i0 [.jD k' (min m0 n0) a'] cs).map λqE=>{val:= .int .i64 (.lit (min m0 n0:Nat)),vcs:=sc.vcs,rd:=j::sc.rd,jE:= .set j (.row b' true qE)}
        else none
       | some i0,some n0,none,[⟨.int k',1,a'⟩]=>
        match kK i0 n0 cs with
        | some [.jD k2 N2 a]=>
         if s=1/\k2=k'/\N2=n0 then
          (xy i0 [.jD k' n0 (.jA a (.lit 0) (rA sc.n (.lit n0)) a')] cs).map λqE=>{val:= .int .i64 (rA sc.n (.lit n0)),vcs:=sc.vcs++fD (.lit 0) sc.n,rd:=j::sc.rd,jE:= .set j (.row b' true qE)}
         else none
        | _=>none
       | _,_,_,_=>none
     | _=>none
    | x=>
     match iJ hp x with
     | some r=>
      if r.t=t/\r.s=te.size/\r.s=cm r.aB/\r.md=true/\0<r.s then
       (kE r.p.lo (rA sc.n r.p.len) r.aB sc.aB).map λaS=>
        {val:= .int .i64 (rA sc.n r.p.len),vcs:=r.vcs++sc.vcs++fD (.lit 0) r.p.len++fD (.lit 0) sc.n,rd:=r.j::sc.rd,jE:= .set r.j (.cF true r.v t r.s r.n aS)}
      else none
     | none=>none
   | none=>none
  | none=>none
 | _=>none
def FG(T:List TI)(nv:Nat)(k:TK)(n c:E):Option jf:=
 match k with
 | .slice t=>
  match aV T t with
  | some te=>
   match lO T te with
   | some z=>some {val:= .vv nv,vcs:=fD (.lit 0) n++fD n c++[yu c te.bytes],jE:= .own (.cF true nv t te.size n z)}
   | none=>none
  | none=>none
 | _=>none
def Lx(_:List TI)(_:List Ck)(_:Nat)(_:TK)(_:SV)(_:E):Option jf:=none
def DA(_:List TI)(_:List Ck)(_:Nat)(_:TK)(_ _:SV):Option jf:=none
def DB(_:List TI)(_:List Ck)(_:Nat)(_:TK)(_ _:SV):Option jf:=none
def yv(T:List TI)(hp:List Ck)(nv:Nat)(tt:TI)(ts ts':Nat)(x y:SV):Option jf:=
 if ts=ts' then(match yr T hp nv tt.k x y with | some r=>some r | none=>match vf T hp nv tt.k x y with | some r=>some r | none=>match DA T hp nv tt.k x y with | some r=>some r | none=>DB T hp nv tt.k x y)else(match aV T ts',y with
    | some ti,.int _ m=>match ti.k with
     | .int _=>Lx T hp nv tt.k x m
     | _=>none
    | _,_=>none)
def QQ(a:E)(i:Nat):Option Int:=
 match fc a (.lit i)with
 | .lit n=>some n
 | _=>none
def xH(a:E):Nat->Option (List Int)
 | 0=>some []
 | n+1=>match xH a n,QQ a n with
  | some l,some x=>some (l++[x])
  | _,_=>none
def Lu(n:Nat)(a:E):E:=
 match xH a n with
 | some l=> .lit (aT l:Nat)
 | none=> .kc n a
def uI:List jt->Option (List IntKind)
 | []=>some []
 | some k::r=>(uI r).map (k:: ·)
 | none::_=>none
def qp(ti:TI):Option (List IntKind×Bool):=
 match ti.k with
 | .int k=>some ([k],false)
 | .struct _=>if ti.lay.isEmpty then none else(uI (mF ti.lay)).map λl=>(l,true)
 | .arr .. =>if ti.lay.isEmpty then none else(uI (mF ti.lay)).map λl=>(l,true)
 | _=>none
def ss(ka:Bool)(k:SV):Option (List SV):=
 match ka,k with
 | true,.agg cs=>some cs
 | false,.int q e=>some [.int q e]
 | _,_=>none
def xI(T:List TI)(te:TI):Option (List bU):=
 if te.size=0 then(if te.zero.isEmpty&&te.k.agg then some []else none)else lO T te
def fh:List SV->List SV->Bool
 | [],[]=>true
 | .int k (.lit n)::r,.int k' (.lit m)::s=>k==k'&&n==m&&fh r s
 | .bool (.lit a)::r,.bool (.lit b)::s=>a==b&&fh r s
 | .jD k n (.lit a)::r,.jD k' n' (.lit b)::s=>k==k'&&n==n'&&a==b&&fh r s
 | .iy::r,.iy::s=>fh r s
 | .bW::r,.bW::s=>fh r s
 | .qK::r,.qK::s=>fh r s
 | .pT::r,.pT::s=>fh r s
 | .oM::r,.oM::s=>fh r s
 | .str l::r,.str l'::s=>l==l'&&fh r s
 | _,_=>false
def TK.isSlice:TK->Bool
 | .slice _=>true
 | _=>false
def uJ(T:List TI)(nb t:Nat):Option jf:=
 match aV T t with
 | some {k:= .map kt vt,.. }=>
  match aV T kt,aV T vt with
  | some tk,some tv=>
   match qp tk,(if tv.k.isSlice then none else xI T tv)with
   | some (kl,ka),some aB=>some {val:= .mp nb,jE:= .new (.map nb kl ka tv.k.agg tv.zero (.lit 0) aB)}
   | some (kl,ka),none=>some {val:= .mp nb,jE:= .new (.vK nb kl ka tv.k.agg tv.zero [])}
   | _,_=>none
  | _,_=>none
 | _=>none
def xK(T:List TI)(hp:List Ck)(t:Nat)(x k:SV)(comma:Bool):Option jf:=
 match aV T t with
 | some {k:= .map kt vt,.. }=>
  match aV T kt,aV T vt with
  | some tk,some tv=>
   match qp tk with
   | some (kl,ka)=>
    match ss ka k with
    | some kc=>
     match rowOf kc with
     | some (JH,a)=>
      if JH≠kl then none else
      match x with
      | .oM=>(jP tv.k.agg tv.zero).map λv=>{val:=if comma then .oH [v,.bool (.lit false)]else v}
      | .mp b=>
       match nu hp b with
       | some (j,.map _ nB zJ z_ Dy has aB)=>
        if nB=kl/\zJ=ka/\z_=tv.k.agg/\fh Dy tv.zero=true then
         match p_ (Lu kl.length a) aB with
         | some es=>(jP tv.k.agg es).map λv=>{val:=if comma then .oH [v,.bool (VO (fc has (Lu kl.length a)))]else v,rd:=[j]}
         | none=>none
        else none
       | some (j,.vK _ nB zJ z_ Dy es)=>
        if nB=kl/\zJ=ka/\z_=tv.k.agg/\fh Dy tv.zero=true then
         match Lu kl.length a with
         | .lit n=>(jP tv.k.agg (oP es Dy n.toNat)).map λv=>{val:=if comma then .oH [v,.bool (.lit (r8 es n.toNat))]else v,rd:=[j]}
         | _=>none
        else none
       | _=>none
      | _=>none
     | none=>none
    | none=>none
   | none=>none
  | _,_=>none
 | _=>none
def AZ:SV->Bool
 | .agg _=>true
 | .jD .. =>true
 | _=>false
def tf(T:List TI)(hp:List Ck)(t:Nat)(x k v:SV):Option jf:=
 match aV T t with
 | some {k:= .map kt vt,.. }=>
  match aV T kt,aV T vt with
  | some tk,some tv=>
   match qp tk with
   | some (kl,ka)=>
    match ss ka k,fA v with
    | some kc,some vs=>
     match rowOf kc,x with
     | some (JH,a),.mp b=>
      match nu hp b with
      | some (j,.map b' nB zJ z_ zero has aB)=>
       if JH=kl/\nB=kl/\zJ=ka/\z_=tv.k.agg/\lF vs=cm aB/\AZ v=tv.k.agg then
        match mz (Lu kl.length a) vs aB with
        | some aS=>some {val:= .undef,rd:=[j],jE:= .set j (.map b' kl ka z_ zero (.oL (.oL has (.lit 0) (xx (fl (fc has (.lit 0)) (.lit 1)) (uA .jl .i64 (fc has (Lu kl.length a)) (.lit 1)))) (Lu kl.length a) (.lit 1)) aS)}
        | none=>none
       else none
      | some (j,.vK b' nB zJ z_ zero es)=>
       if JH=kl/\nB=kl/\zJ=ka/\z_=tv.k.agg/\AZ v=tv.k.agg then
        match Lu kl.length a with
        | .lit n=>some {val:= .undef,rd:=[j],jE:= .set j (.vK b' kl ka z_ zero (jB n.toNat vs es))}
        | _=>none
       else none
      | _=>none
     | _,_=>none
    | _,_=>none
   | none=>none
  | _,_=>none
 | _=>none
def Bb(T:List TI)(hp:List Ck)(t:Nat)(x k:SV):Option jf:=
 match aV T t with
 | some {k:= .map kt vt,.. }=>
  match aV T kt,aV T vt with
  | some tk,some tv=>
   match qp tk with
   | some (kl,ka)=>
    match ss ka k with
    | some kc=>
     match rowOf kc,x with
     | some (JH,a),.mp b=>
      match nu hp b with
      | some (j,.map b' nB zJ z_ zero has aB)=>
       if JH=kl/\nB=kl/\zJ=ka/\z_=tv.k.agg/\kl≠[]/\fh zero tv.zero=true then
        (jP tv.k.agg tv.zero).map λz=>{val:= .oH [z,.int .i64 (fc has (.lit 0))],vcs:=[Vi (fc has (Lu kl.length a)) (.lit 0)],rd:=[j],jE:= .set j (.map b' kl ka z_ zero (.oL (.oL has (.lit 0) (fl (fc has (.lit 0)) (.lit 1))) (Lu kl.length a) (fl (fc has (.lit 0)) (.lit 2))) aB)}
       else none
      | _=>none
     | _,_=>none
    | none=>none
   | none=>none
  | _,_=>none
 | _=>none
def Be(hp:List Ck)(x s v:SV):Option jf:=
 match x,s,fA v with
 | .mp b,.int .i64 e,some vs=>
  match nu hp b with
  | some (j,.map b' kl ka va zero (.oL h (.kc n a) y) aB)=>
   if n=kl.length/\lF vs=cm aB/\AZ v=va then
    match mz (.kc n a) vs aB with
    | some aS=>some {val:= .undef,vcs:=[zy (.lit 0) e,Vi (fc (.oL h (.kc n a) y) (.kc n a)) (fl e (.lit 2))],rd:=[j],jE:= .set j (.map b' kl ka va zero (.oL h (.kc n a) y) aS)}
    | none=>none
   else none
  | _=>none
 | _,_,_=>none
def bytesOf(T:List TI)(nv:Nat)(k:TK)(v:SV):Option jf:=
 match k with
 | .slice e=>
  match aV T e,rU v with
  | some te,some s=>if te.k= .int .u8/\te.size=1 then some {val:= .vv nv,vcs:=[zy (.lit 0) (oa s)].filter (λb=>b != .lit true),jE:= .Gr (.cF false nv e 1 (oa s) [⟨.int .u8,1,Np s⟩])}else none
  | _,_=>none
 | _=>none
def IU(_:List TI)(_:Nat)(_:TK)(_:List UInt8):Option jf:=none
def tC(a n:E):E:=
 match iH n with
 | some k=>match xH a k with
  | some l=> .tH ((k:Int)::l)
  | none=>uz a n
 | none=>uz a n
def FH(hp:List Ck):SV->Option jf
 | .bW=>some {val:= .str []}
 | .sl b i 1 n _=>
  match findAt hp b,iH i,iH n with
  | some (j,.row _ _ cs),some i,some n=>
   match kK i n cs with
   | some xs=>
    match rowOf xs with
    | some (kl,a)=>if kl=List.replicate n .u8 then some {val:=mkStr (tC a (.lit n)),rd:=[j]}else none
    | none=>none
   | none=>none
  | some (j,.row _ _ [.jD .u8 m a]),some 0,none=>some {val:=mkStr (tC a n),vcs:=[zy n (.lit m)].filter (λb=>b != .lit true),rd:=[j]}
  | _,_,_=>none
 | .vv v=>
  match fC hp v with
  | some (j,.cF _ _ _ 1 n [⟨.int .u8,1,a⟩])=>some {val:=mkStr (tC a n),rd:=[j]}
  | _=>none
 | .kj v cs s=>
  match iJ hp (.kj v cs s)with
  | some r=>match jU r.p.lo r.aB with
   | some [⟨.int .u8,1,a⟩]=>if r.s=1/\r.s=cm r.aB then some {val:=mkStr (tC a r.p.len),vcs:=r.vcs++fD (.lit 0) r.p.len,rd:=[r.j]}else none
   | _=>none
  | none=>none
 | _=>none
def qD(T:List TI)(hp:List Ck)(src:TypeId)(v:SV):Option jf:=
 match aV T src with
 | some ts=>
  match ts.k with
  | .slice e=>
   match aV T e with
   | some te=>if te.k= .int .u8 then FH hp v else none
   | none=>none
  | _=>none
 | none=>none
def Ci(hp:List Ck)(ti:TI)(op:BinOp)(a b:SV):Option jf:=
 match ti.k,a,b with
 | .slice _,.vv i,.bW=>
  match fC hp i with
  | some (j,.cF ..)=>
   match op with
   | .eql=>some {val:= .bool (.Eg i),rd:=[j]}
   | .neq=>some {val:= .bool (kp (.Eg i)),rd:=[j]}
   | _=>none
  | _=>none
 | _,_,_=>none
def Cj(ti:TI)(op:BinOp)(y:Operand)(a:SV):Option jf:=
 match ti.k,y,a with
 | .iface,.const .nilIface,.pT=>
  match op with
  | .eql=>some {val:= .bool (.lit true)}
  | .neq=>some {val:= .bool (.lit false)}
  | _=>none
 | .iface,.const .nilIface,.Qs .. =>
  match op with
  | .eql=>some {val:= .bool (.lit false)}
  | .neq=>some {val:= .bool (.lit true)}
  | _=>none
 | .iface,.const .nilIface,.VJ .. =>
  match op with
  | .eql=>some {val:= .bool (.lit false)}
  | .neq=>some {val:= .bool (.lit true)}
  | _=>none
 | .iface,.const .nilIface,.Jp c _=>
  match op with
  | .eql=>some {val:= .bool (kp c)}
  | .neq=>some {val:= .bool c}
  | _=>none
 | _,_,_=>none
def AR(look:Nat->Option SV):Option Operand->Option (Option E)
 | none=>some none
 | some o=>match kO look o with
  | some (.int _ e)=>some (some e)
  | _=>none
def Ck.ais(b:Nat):Ck->Bool
 | .PY b' _ _=>b==b'
 | _=>false
def M4(hp:List Ck):SV->Option jf
 | .ptr b 0=>
  match hp.findIdx? (Ck.ais b)with
  | some j=>match hp[j]? with
   | some (.PY b' l pos)=>
    if b=b' then
     match l[pos]? with
     | some c=>if c.toNat<128 then some {val:= .oH [.bool (.lit true),.int .i64 (.lit pos),.int .i32 (.lit c.toNat)],rd:=[j],jE:= .set j (.PY b' l (pos+1))}else none
     | none=>some {val:= .oH [.bool (.lit false)],rd:=[j]}
    else none
   | _=>none
  | none=>none
 | _=>none
def rangeMap(hp:List Ck)(nb:Nat)(k:TK)(m:Nat):Option jf:=
 match k with
 | .map _ _=>
  match nu hp m with
  | some (j,.map ..)=>some {val:= .ptr nb 0,rd:=[j],jE:= .new (.QN nb m)}
  | _=>none
 | _=>none
def Ck.ait(b:Nat):Ck->Bool
 | .QN b' _=>b==b'
 | _=>false
def M5(hp:List Ck):SV->Option jf
 | .ptr b 0=>
  match hp.findIdx? (Ck.ait b)with
  | some j=>match hp[j]? with
   | some (.QN b' m)=>
    if b=b' then
     match nu hp m with
     | some (i,.map _ _ _ _ _ has _)=>if iH (fc has (.lit 0))=some 0 then some {val:= .oH [.bool (.lit false)],rd:=[j,i]}else none
     | _=>none
    else none
   | _=>none
  | none=>none
 | _=>none
def ep(T:List TI)(look:Nat->Option SV)(hp:List Ck)(nb nv:Nat)(o:Oper):Option jf:=
 let ev:=kO look
 match o.op with
 | .move x | .assign x=>(ev x).map λv=>{val:=v}
 | .pick c a b=>
  match ev c,ev a,ev b with
  | some (.bool c),some a,some b=>(FE c a b).map λv=>{val:=v}
  | _,_,_=>none
 | .alloc t=>(aV T t).bind λti=>match ti.k with
  | .Lq _ e=>if fh ti.zero [.iy,.bW]then some {val:= .ptr nb 0,jE:= .new (.Lq nb t e (.lit 0) (.lit 0))}else none
  | _=>some {val:= .ptr nb 0,jE:= .new (.row nb true ti.zero)}
 | .box _ x=>
  match ev x with
  | some v=>(fA v).map λcs=>{val:= .ptr nb 0,jE:= .new (.row nb true cs)}
  | none=>none
 | .build t parts=>
  match aV T t,partsOf look parts.toList with
  | some ti,some ps=>
   match ti.k with
   | .struct fs=>if r_ T fs then(mA (jI T fs) ti.zero ps).map λcs=>{val:= .agg cs}else none
   | .arr _ e=>
    match aV T e with
    | some te=>(mA (mh te.size) ti.zero ps).map λcs=>{val:= .agg cs}
    | none=>none
   | _=>none
  | _,_=>none
 | .buildSlice t len parts=>
  match aV T t,partsOf look parts.toList with
  | some ti,some ps=>
   match ti.k with
   | .slice e=>
    match aV T e with
    | some te=>if len=0 then(if ps.isEmpty then(lO T te).map λz=>{val:= .vv nv,jE:= .own (.cF true nv e te.size (.lit 0) z)}else none)else if te.size=0\/1000<len*te.size then none else(mA (mh te.size) (List.replicate len te.zero).flatten ps).map λcs=>{val:= .sl nb (.lit 0) te.size (.lit len) (.lit len),jE:= .new (.row nb true cs)}
    | none=>none
   | _=>none
  | _,_=>none
 | .load t x=>
  match aV T t,ev x with
  | some ti,some a=>zY hp ti.k.agg ti.size a
  | _,_=>none
 | .store t x y=>
  match aV T t,ev x,ev y with
  | some ti,some a,some v=>AJ hp ti.size v a
  | _,_,_=>none
 | .nilCheck x=>
  match ev x with
  | some (.ptr b c)=>some {val:= .ptr b c}
  | some (.rL b i s c)=>some {val:= .rL b i s c}
  | some (.j9 e)=>some {val:= .j9 e,vcs:=[VO e]}
  | some (.pv v i s c)=>match fC hp v with
   | some (j,.cF _ _ _ _ n _)=>some {val:= .pv v i s c,vcs:=ju i n,rd:=[j]}
   | _=>none
  | some (.fn f cs)=>some {val:= .fn f cs}
  | _=>none
 | .binOp op t x y _=>
  match aV T t,ev x,ev y with
  | some ti,some a,some b=>match Cj ti op y a with
   | some r=>some r
   | none=>match Ci hp ti op a b with
   | some r=>some r
   | none=>pB ti op a b
  | _,_,_=>none
 | .unOp op _ x=>
  match op,ev x with
  | .not,some (.bool b)=>some {val:= .bool (kp b)}
  | .xor,some (.int k a)=>some {val:= .int k (uA .cQ k (.lit (if xe k then -1 else IntKind.hi k)) a)}
  | .neg,some (.int k a)=>some {val:= .int k (AL k (xx (.lit 0) a)).1,vcs:=(AL k (xx (.lit 0) a)).2}
  | _,_=>none
 | .convert src dst x=>
  match aV T src,aV T dst,ev x with
  | some _,some ti,some (.int _ a)=>
   match ti.k with
   | .int k=>some {val:= .int k (AM k a).1,vcs:=(AM k a).2}
   | _=>none
  | some ts,some ti,some (.str l)=>if ts.k= .str then IU T nv ti.k l else none
  | some ts,some ti,some (.nX s)=>if ts.k= .str then bytesOf T nv ti.k (.nX s)else none
  | some _,some ti,some (.sl b i s n m)=>
   match ti.k with
   | .slice e=>
    match aV T e,findAt hp b with
    | some te,some (j,.row b' true cs)=>if src=dst/\te.k= .int .u8 then some {val:= .sl b i s n m,rd:=[j],jE:= .set j (.row b' false cs)}else none
    | _,_=>none
   | .str=>qD T hp src (.sl b i s n m)
   | _=>none
  | some _,some ti,some (.vv v)=>if ti.k= .str then qD T hp src (.vv v)else none
  | some _,some ti,some (.kj v cs s)=>if ti.k= .str then qD T hp src (.kj v cs s)else none
  | some _,some ti,some .bW=>if ti.k= .str then qD T hp src .bW else none
  | _,_,_=>none
 | .makeInterface t x=>
  match aV T t,ev x with
  | some ti,some (.int k e)=>if ti.k= .int k then some {val:= .Qs t k e}else none
  | some ti,some (.ptr b c)=>match ti.k with
   | .ptr _=>some {val:= .VJ t b c}
   | _=>none
  | _,_=>none
 | .sliceToArrayPointer arr x=>
  match aV T arr,ev x with
  | some ta,some v=>
   match ta.k with
   | .arr n e=>
    match aV T e with
    | some _=>
     if n=0 then none else
     match v with
     | .sl b i s m _=>some {val:=Gu b i s 0,vcs:=fD (.lit n) m}
     | v=>
      match iJ hp v with
      | some r=>some {val:= .pv r.v r.p.lo r.s 0,vcs:=r.vcs++fD (.lit n) r.p.len,rd:=[r.j]}
      | none=>none
    | none=>none
   | _=>none
  | _,_=>none
 | .fieldAddr s x f=>
  match aV T s,ev x with
  | some ts,some a=>
   match ts.k with
   | .struct fs=>
    match fs[f]? with
    | some (t,off)=>
     match aV T t with
     | some ti=>if ti.size=0 then none else
      match a with
      | .ptr b c=>some {val:= .ptr b (c+off)}
      | .rL b i s c=>some {val:= .rL b i s (c+off)}
      | .pv v i s c=>
       match fC hp v with
       | some (j,.cF _ _ _ _ n _)=>some {val:= .pv v i s (c+off),vcs:=ju i n,rd:=[j]}
       | _=>none
      | _=>none
     | none=>none
    | none=>none
   | _=>none
  | _,_=>none
 | .field s x f=>
  match aV T s,ev x with
  | some ts,some (.agg cs)=>
   match ts.k with
   | .struct fs=>
    match fs[f]? with
    | some (t,off)=>
     match aV T t with
     | some ti=>
      match kK off ti.size cs with
      | some x=>(jP ti.k.agg x).map λv=>{val:=v}
      | none=>none
     | none=>none
    | none=>none
   | _=>none
  | _,_=>none
 | .indexAddr t x y=>
  match aV T t,ev x,ev y with
  | some tt,some a,some (.int _ j)=>
   match tt.k with
   | .slice e=>
    match aV T e with
    | some te=>
     match a with
     | .sl b i s n _=>if te.size=s then some {val:=Gu b (fl i j) s 0,vcs:=qS i++ju j n}else none
     | a=>
      match iJ hp a with
      | some r=>if te.size=r.s then some {val:= .pv r.v (fl r.p.lo j) r.s 0,vcs:=r.vcs++ju j r.p.len,rd:=[r.j]}else none
      | none=>none
    | none=>none
   | .arr n e=>
    match aV T e with
    | some te=>
     match a with
     | .ptr b c=>some {val:=Gu b j te.size c,vcs:=ju j (.lit n)}
     | _=>none
    | none=>none
   | _=>none
  | _,_,_=>none
 | .index t x y=>
  match aV T t,ev x,ev y with
  | some tt,some (.agg cs),some (.int _ j)=>
   match tt.k with
   | .arr n e=>
    match aV T e with
    | some te=>
     match iH j with
     | some l=>if l<n then(match kK (l*te.size) te.size cs with
      | some x=>(jP te.k.agg x).map λv=>{val:=v}
      | none=>none)else none
     | none=>
      match cs with
      | [.jD k m a]=>if m=n/\te.size=1/\te.k.agg=false then some {val:= .int k (fc a j),vcs:=ju j (.lit n)}else none
      | _=>none
    | none=>none
   | _=>none
  | some tt,some v,some (.int _ j)=>if tt.k= .str then K4 v j else none
  | _,_,_=>none
 | .extract x i=>
  match ev x with
  | some (.oH vs)=>(vs[i]?).map λv=>{val:=v}
  | _=>none
 | .makeFunc fn first jL=>
  match fn,first.toList with
  | .func f,[]=>(kP (jL.toList.map ev)).map λcs=>{val:= .fn f cs}
  | .func f,x::r=>if jL.isEmpty then(kP ((x::r).map ev)).map λcs=>{val:= .fm f cs}else none
  | _,_=>none
 | .call c=>
  match c.callee,c.args.toList,c.argTypes.toList with
  | .builtin .len,[x],[t]=>
   match aV T t,ev x with
   | some tt,some v=>K5 hp tt.k v
   | _,_=>none
  | .builtin .cap,[x],[t]=>
   match aV T t,ev x with
   | some tt,some .bW=>match tt.k with
    | .slice _=>some {val:= .int .i64 (.lit 0)}
    | _=>none
   | _,_=>none
  | .builtin .max,[x,y],_=>
   match ev x,ev y with
   | some (.int k a),some (.int _ b)=>some {val:= .int k (uA .imax k a b)}
   | _,_=>none
  | .builtin .min,[x,y],_=>
   match ev x,ev y with
   | some (.int k a),some (.int _ b)=>some {val:= .int k (uA .jl k a b)}
   | _,_=>none
  | .builtin .append,[x,y],[ts,ts']=>
   match aV T ts,ev x,ev y with
   | some tt,some x,some y=>yv T hp nv tt ts ts' x y
   | _,_,_=>none
  | .builtin .clear,[x],[t]=>
   match aV T t,ev x with
   | some tt,some v=>Ch T hp tt.k v
   | _,_=>none
  | .builtin .copy,[x,y],[ts,ts']=>
   match aV T ts,ev x,ev y with
   | some tt,some x,some y=>if ts=ts' then FF T hp tt.k x y else none
   | _,_,_=>none
  | _,_,_=>none
 | .slice t x lo hi mx=>
  match aV T t,ev x,AR look lo,AR look hi,AR look mx with
  | some tt,some v,some l,some h,some m=>if tt.k= .str then(if m.isSome then none else IT v l h)else AV T hp tt.k v l h m
  | _,_,_,_,_=>none
 | .makeMap t none=>uJ T nb t
 | .lookup t x k comma=>
  match ev x,ev k with
  | some x,some k=>xK T hp t x k comma
  | _,_=>none
 | .mapUpdate t x k v=>
  match ev x,ev k,ev v with
  | some x,some k,some v=>tf T hp t x k v
  | _,_,_=>none
 | .mapEntry t x k=>
  match ev x,ev k with
  | some x,some k=>Bb T hp t x k
  | _,_=>none
 | .entryStore _ x s v=>
  match ev x,ev s,ev v with
  | some x,some s,some v=>Be hp x s v
  | _,_,_=>none
 | .insert t x k v=>
  match ev x,ev k,ev v with
  | some x,some k,some v=>tf T hp t x k v
  | _,_,_=>none
 | .makeSlice t n c=>
  match aV T t,ev n,ev c with
  | some tt,some (.int _ n),some (.int _ c)=>FG T nv tt.k n c
  | _,_,_=>none
 | .range t x=>
  match aV T t,ev x with
  | some ti,some (.str l)=>if ti.k= .str then some {val:= .ptr nb 0,jE:= .new (.PY nb l 0)}else none
  | some ti,some (.mp m)=>rangeMap hp nb ti.k m
  | _,_=>none
 | .next x true=>(ev x).bind (M4 hp)
 | .next x false=>(ev x).bind (M5 hp)
 | _=>none
end Go.RX
