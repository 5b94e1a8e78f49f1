/- Executor. -/
import Derived.Test.YtmgbbbmdbpbeeaaGreatM00
open List renaming range → ajw
namespace Go.RX
inductive CK where
 | int (k:IntKind) | bool | val (i:Nat) | ptr | bU | str | cv | Gt (l:List Nat) | pt (i:E) (v:Nat)
 deriving DecidableEq,Repr
structure bR where
 ck:CK
 w:Nat
 a:E
 deriving DecidableEq,Repr
inductive Jump where
 | none | ret | exit (id:Nat)
 deriving DecidableEq,Repr
def Jump.code:Jump→Option Code
 | .none=>Option.none
 | .ret=>some .ret
 | .exit id=>some (.exit id)
inductive RS where
 | ready | busy | done | exhausted
 deriving DecidableEq,Repr
def RS.st:RS→LoopState
 | .ready=> .ready
 | .busy=> .busy
 | .done=> .done
 | .exhausted=> .exhausted
inductive Ck where
 | emp
 | row (b:Nat) (wr:Bool) (cs:List SV)
 | bK (md:Bool) (v t s:Nat) (n:E) (aD:List bR)
 | abs (i:Nat)
 | kP (l r:Nat) (s:RS) (j:Jump)
 | Ki (b:Nat)
 | qZ (b:Nat)
 | map (b:Nat) (kl:List IntKind) (ka va:Bool) (zero:List SV) (has:E) (aD:List bR)
 | sJ (b:Nat) (kl:List IntKind) (ka va:Bool) (zero:List SV) (es:List (Nat×List SV))
 | IL (b t e:Nat) (n a:E)
 | Td (b:Nat) (l:List UInt8) (pos:Nat)
 deriving Repr,Inhabited
def bd(k:IntKind)(w:Nat)(f:Nat→Int)(i:Nat):List Value:=aj k w fun j=>f (i*w+j)
def z_(w:Nat)(f:Nat→Int)(i:Nat):List Value:=(ajw w).map fun j=> .bool (!(f (i*w+j)==0))
def cJ(w:Nat)(f:Nat→Value)(i:Nat):List Value:=(ajw w).map fun j=>f (i*w+j)
def xV(w:Nat)(f:Nat→Int)(i:Nat):List Value:=(ajw w).map fun j=>nu (f (i*w+j))
def bR.cells(ρ:Env)(c:bR):Nat→List Value:=
 match c.ck with
 | .int k=>bd k c.w (c.a.den ρ)
 | .bool=>z_ c.w (c.a.den ρ)
 | .val v=>cJ c.w fun j=>((ρ.va.getD v fun _=>V1.nil) j).v
 | .ptr=>xV c.w (c.a.den ρ)
 | .bU=>cJ c.w fun _=> .slice none 0 0
 | .str=>cJ c.w fun j=> .string ⟨(cd (o4 (c.a.den ρ) j)).toArray⟩
 | .cv=>cJ c.w fun j=>bQ (c.a.den ρ j)
 | .Gt l=>cJ c.w fun j=>((l[j]?).elim V1.nil fun n=>ρ.vv.getD n V1.nil).v
 | .pt i v=>cJ c.w fun j=>if j=(i.den ρ 0).toNat then(ρ.vv.getD v V1.nil).v else bQ (c.a.den ρ j)
def aW(n:Nat)(cs:List (Nat→List Value)):List Value:=(ajw n).flatMap fun i=>cs.flatMap fun c=>c i
def aK(ρ:Env)(n:Nat)(aD:List bR):List Value:=aW n (aD.map (bR.cells ρ))
def mT(es:List (Nat×List SV))(zero:List SV)(k:Nat):List SV:=
 match es with
 | []=>zero
 | (i,v)::r=>if i=k then v else mT r zero k
def pI(es:List (Nat×List SV))(k:Nat):Bool:=
 match es with
 | []=>false
 | (i,_)::r=>if i=k then true else pI r k
def Ah(k:Nat)(v:List SV):List (Nat×List SV)→List (Nat×List SV)
 | []=>[(k,v)]
 | (i,u)::r=>if i=k then(k,v)::r else(i,u)::Ah k v r
def PK(es:List (Nat×List Value))(zero:List Value)(k:Nat):List Value:=
 match es with
 | []=>zero
 | (i,v)::r=>if i=k then v else PK r zero k
def C8(ρ:Env)(es:List (Nat×List SV)):List (Nat×List Value):=
 match es with
 | []=>[]
 | (i,v)::r=>(i,SV.aA ρ v)::C8 ρ r
theorem J5(ρ:Env)(zero:List SV)(k:Nat): ∀es:List (Nat×List SV),PK (C8 ρ es) (SV.aA ρ zero) k=SV.aA ρ (mT es zero k)
 | []=>rfl
 | (i,v)::r=>by simp only [C8,PK,mT];split<;>first | rfl | exact J5 ρ zero k r
def h_:Loop:=⟨.ready,none,0,#[],#[],.skip,.skip,0⟩
noncomputable def Ck.den(ρ:Env):Ck→HP
 | .emp=>HP.emp
 | .row b wr cs=>al (ρ.bv.getD b 0) wr (SV.aA ρ cs)
 | .bK md v t s n aD=>aG md t s (ρ.vv.getD v V1.nil).v (n.den ρ 0).toNat (aK ρ (n.den ρ 0).toNat aD)
 | .abs i=>ρ.pv.getD i HP.emp
 | .kP l r s j=>sB (ρ.bv.getD l 0) {ρ.lr.getD r h_ with state:=s.st,pending:=j.code}
 | .Ki b=>xH (ρ.bv.getD b 0)
 | .qZ b=>kM (pq (ρ.bv.getD b 0))
 | .map b kl ka va zero has aD=>vn (ρ.bv.getD b 0) kl ka va (SV.aA ρ zero) (fun i=> !(has.den ρ i==0)) fun i=>(aD.map (bR.cells ρ)).flatMap fun c=>c i
 | .sJ b kl ka va zero es=>vn (ρ.bv.getD b 0) kl ka va (SV.aA ρ zero) (fun i=>pI es i) fun i=>PK (C8 ρ es) (SV.aA ρ zero) i
 | .IL b t e n a=>Tc (ρ.bv.getD b 0) t e (aj .u8 (n.den ρ 0).toNat (a.den ρ))
 | .Td b l pos=>Tb (ρ.bv.getD b 0) l pos
theorem Ck.kB(ρ:Env)(b:Nat)(kl:List IntKind)(ka va:Bool)(zero:List SV)(es:List (Nat×List SV)):
  Ck.den ρ (.sJ b kl ka va zero es)=vn (ρ.bv.getD b 0) kl ka va (SV.aA ρ zero) (fun i=>pI es i) fun i=>SV.aA ρ (mT es zero i):=by
 simp only [Ck.den,J5]
inductive TK where
 | int (k:IntKind) | bool | str | ptr (e:Nat) | slice (e:Nat) | arr (n e:Nat) | struct (fs:List (Nat×Nat)) | map (k e:Nat) | func | iface | IL (fs:List (Nat×Nat)) (e:Nat)
 deriving DecidableEq,Repr
abbrev gj:=Option IntKind
structure TI where
 t:Nat
 k:TK
 size:Nat
 bytes:Nat
 zero:List SV
 lay:List (gj×Nat):=[]
 deriving Repr
def kq:List (gj×Nat)→List gj
 | []=>[]
 | (k,n)::r=>List.replicate n k++kq r
def pH:List SV→List gj→Bool
 | [],[]=>true
 | .int k _::r,some k'::l=>k==k'&&pH r l
 | .bool _::r,none::l=>pH r l
 | .b_ k n _::r,l=>decide (n≤l.length)&&(l.take n).all (· ==some k)&&pH r (l.drop n)
 | _,_=>false
def aU(T:List TI)(t:Nat):Option TI:=T.find? fun i=>i.t==t
def TK.agg:TK→Bool
 | .arr .. =>true
 | .struct _=>true
 | .IL .. =>true
 | _=>false
def du:E→E→E
 | .lit a,.lit b=> .lit (a+b)
 | .lit 0,b=>b
 | a,.lit 0=>a
 | a,b=> .bin .add .i64 a b
def uw:E→E→E
 | .lit a,.lit b=> .lit (a - b)
 | a,.lit 0=>a
 | a,b=> .bin .sub .i64 a b
def pw:E→E→E
 | .lit a,.lit b=> .lit (a*b)
 | .lit 1,b=>b
 | a,.lit 1=>a
 | a,b=> .bin .mul .i64 a b
def jT:E→E→E
 | a,.lit 0=>a
 | .lit n,_=> .lit n
 | a,o=> .shift a o
def E.Xb:E→Bool
 | .lit _=>true
 | .var _=>true
 | .P1 .. =>true
 | .bin .. =>true
 | .wrap .. =>true
 | .kc .. =>true
 | .oZ _=>true
 | _=>false
def BY(v:E):E:=if v.Xb then v else .P1 v (.lit 0)
def BZ:E→E→E
 | .lit n,_=> .lit n
 | .po a (.lit j) s,.lit i=>if i.toNat=j.toNat then s else BZ a (.lit i)
 | .po a j s,i=>if i=j then s else .Qn (.po a j s) i
 | a,i=> .Qn a i
def gp:E→E→E
 | .lit n,_=> .lit n
 | .o3 l,.lit i=> .lit (l.getD i.toNat 0)
 | .sD b (.lit j) v,.lit i=>if i.toNat=j.toNat then BY v else gp b (.lit i)
 | .shift b (.lit o),.lit i=>gp b (.lit (o.toNat+i.toNat:Nat))
 | .rl b (.lit o) (.lit n) x,.lit i=>if o.toNat≤i.toNat∧i.toNat<o.toNat+n.toNat then gp x (.lit (i.toNat - o.toNat:Nat))else gp b (.lit i)
 | .sD b i v,i'=>if i=i' then BY v else .P1 (.sD b i v) i'
 | a,i=> .P1 a i
def ux(o:W7)(k:IntKind):E→E→E
 | .lit a,.lit b=> .lit (ak o k a b)
 | a,b=> .bin o k a b
def MW(k:IntKind):E→E
 | .lit a=> .lit (k.wrap a)
 | a=> .wrap k a
def Qu:E→BE
 | .lit n=> .lit (!(n==0))
 | a=> .nz a
def Uq:E→E→BE
 | .lit a,.lit b=> .lit (a==b)
 | a,b=>if a=b then .lit true else .eq a b
def GR:E→E→BE
 | .lit a,.lit b=> .lit (decide (a<b))
 | a,b=> .lt a b
def xd:E→E→BE
 | .lit a,.lit b=> .lit (decide (a≤b))
 | a,b=> .le a b
def iI:BE→BE
 | .lit b=> .lit (!b)
 | .not b=>b
 | b=> .not b
def zZ:BE→BE→BE
 | .lit true,b=>b
 | .lit false,_=> .lit false
 | a,.lit true=>a
 | a,b=> .and a b
def Z0:BE→BE→BE
 | .lit false,b=>b
 | .lit true,_=> .lit true
 | a,.lit false=>a
 | a,b=> .or a b
def DN:BE→BE→BE→BE
 | .lit true,a,_=>a
 | .lit false,_,b=>b
 | c,.lit true,b=>Z0 c b
 | c,a,.lit false=>zZ c a
 | c,a,b=> .ite c a b
def zY(l:List UInt8):E:= .o3 ((l.length:Int)::l.map fun b=>((b.toNat:Nat):Int))
def pz:SV→Option E
 | .str l=>some (zY l)
 | .kK s=>some s
 | _=>none
def mkStr:E→SV
 | .o3 (n::l)=>if(n==(l.length:Int))&&l.all (fun b=>decide (0≤b)&&decide (b<256))then .str (l.map fun b=>UInt8.ofNat b.toNat)else .kK (.o3 (n::l))
 | s=> .kK s
def kp(s:E):E:=gp s (.lit 0)
def Kl:E→E
 | .o3 (n::l)=>if l.all (fun b=>decide (0≤b)&&decide (b<256))then .o3 l else .S9 (.o3 (n::l))
 | s=> .S9 s
def rS(a n:E):E:= .sD (.rl (.lit 0) (.lit 1) n a) (.lit 0) n
def AP(s lo hi:E):E:=
 match s with
 | .sD x (.lit 0) _=> .sD (jT x lo) (.lit 0) (uw hi lo)
 | s=> .sD (jT s lo) (.lit 0) (uw hi lo)
def Ko(s t:E):E:= .sD (.rl s (du (kp s) (.lit 1)) (kp t) (jT t (.lit 1))) (.lit 0) (du (kp s) (kp t))
def Qt(a b:E):BE:=if a=b then .lit true else .seq a b
mutual
def SV.width:SV→Nat
 | .b_ _ n _=>n
 | .agg cs=>SV.pA cs
 | _=>1
def SV.pA:List SV→Nat
 | []=>0
 | v::r=>SV.width v+SV.pA r
end
abbrev jY(cs:List SV):Nat:=SV.pA cs
def e_:Nat→List SV→Option (List SV)
 | 0,cs=>some cs
 | _+1,[]=>some []
 | _+1,.agg _::_=>none
 | d+1,.b_ k n a::r=>if d+1<n then some (.b_ k (n - (d+1)) (jT a (.lit (d+1:Nat)))::r)else e_ (d+1 - n) r
 | d+1,_::r=>e_ d r
def gX:Nat→List SV→Option (List SV)
 | 0,_=>some []
 | _+1,[]=>some []
 | _+1,.agg _::_=>none
 | d+1,.b_ k n a::r=>if d+1≤n then some [.b_ k (d+1) a]else(gX (d+1 - n) r).map (.b_ k n a:: ·)
 | d+1,v::r=>(gX d r).map (v:: ·)
def jl(c size:Nat)(cs:List SV):Option (List SV):=
 if c+size≤jY cs then
  match e_ c cs with
  | some r=>gX size r
  | none=>none
 else none
def xU(c:Nat)(vs cs:List SV):Option (List SV):=
 if c+jY vs≤jY cs then
  match gX c cs,e_ (c+jY vs) cs with
  | some a,some b=>some (a++vs++b)
  | _,_=>none
 else none
def iF(agg:Bool)(cs:List SV):Option SV:=
 if agg then some (.agg cs)else
 match cs with
 | [.b_ k 1 a]=>some (.int k (gp a (.lit 0)))
 | [.b_ ..]=>none
 | [.agg _]=>none
 | [v]=>some v
 | _=>none
def SV.one:SV→Bool
 | .agg _=>false
 | .opt .. =>false
 | .undef=>false
 | .mu _=>false
 | _=>true
def ej:SV→Option (List SV)
 | .agg cs=>if cs.all SV.one then some cs else none
 | v=>if v.one then some [v]else none
mutual
def ofValue:Value→Option SV
 | .int k n=>some (.int k (.lit n))
 | .bool b=>some (.bool (.lit b))
 | .pointer none=>some .gx
 | .slice none 0 0=>some .bU
 | .nilFunc=>some .mh
 | .nilIface=>some .sF
 | .map none=>some .qY
 | .string ⟨⟨l⟩⟩=>some (.str l)
 | .tuple ⟨[]⟩=>some .undef
 | .agg ⟨l⟩=>(ofValues l).map .agg
 | _=>none
def ofValues:List Value→Option (List SV)
 | []=>some []
 | .agg _::_=>none
 | v::r=>match ofValue v,ofValues r with
  | some x,some xs=>some (x::xs)
  | _,_=>none
end
def iJ(look:Nat→Option SV):Operand→Option SV
 | .tmp t=>look t
 | .const v=>ofValue v
 | .global _=>none
 | .func f=>some (.fn f [])
def Ck.ra(b:Nat):Ck→Bool
 | .row b' _ _=>b==b'
 | _=>false
def Ck.mC(v:Nat):Ck→Bool
 | .bK _ v' _ _ _ _=>v==v'
 | _=>false
def findAt(hp:List Ck)(b:Nat):Option (Nat×Ck):=
 match hp.findIdx? (Ck.ra b)with
 | some i=>(hp[i]?).map fun c=>(i,c)
 | none=>none
def cG(hp:List Ck)(v:Nat):Option (Nat×Ck):=
 match hp.findIdx? (Ck.mC v)with
 | some i=>(hp[i]?).map fun c=>(i,c)
 | none=>none
def gZ(i n:E):List BE:=
 [xd (.lit 0) i,GR i n].filter fun b=>b != .lit true
def mkP:E→SV
 | .oZ b=> .ptr b 0
 | .lit n=>if n=0 then .gx else .n8 (.lit n)
 | e=> .n8 e
def eR:E→Option Nat
 | .lit (.ofNat n)=>some n
 | _=>none
def B5(c:bR)(i:E):Option SV:=
 match c.ck with
 | .int k=>if c.w=1 then some (.int k (gp c.a i))else some (.b_ k c.w (jT c.a (pw i (.lit c.w))))
 | .bool=>if c.w=1 then some (.bool (Qu (gp c.a i)))else none
 | .val v=>if c.w=1 then some (.DE v i)else none
 | .ptr=>if c.w=1 then some (mkP (gp c.a i))else none
 | .bU=>if c.w=1 then some .bU else none
 | .str=>if c.w=1 then some (mkStr (BZ c.a i))else none
 | .cv=>if c.w=1 then some (.Kg (gp c.a i))else none
 | .Gt l=>match eR i with
  | some k=>match l[k]? with
   | some n=>if c.w=1 then some (.vv n)else none
   | none=>none
  | none=>none
 | .pt j v=>if c.w=1∧j=i then some (.vv v)else none
def nD(i:E):List bR→Option (List SV)
 | []=>some []
 | c::r=>match B5 c i,nD i r with
  | some x,some xs=>some (x::xs)
  | _,_=>none
def bT(aD:List bR):Nat:=(aD.map bR.w).sum
def B7(i:E)(v:SV)(c:bR):Option bR:=
 match c.ck,v with
 | .int k,.int k' e=>if c.w=1∧k=k' then some {c with a:= .sD c.a i e}else none
 | .int k,.b_ k' n b=>if c.w=n∧k=k' then some {c with a:= .rl c.a (pw i (.lit n)) (.lit n) b}else none
 | .bool,.bool (.lit x)=>if c.w=1 then some {c with a:= .sD c.a i (.lit (if x then 1 else 0))}else none
 | .bool,.bool (.nz e)=>if c.w=1 then some {c with a:= .sD c.a i e}else none
 | .ptr,.ptr b o=>if c.w=1∧o=0 then some {c with a:= .sD c.a i (.oZ b)}else none
 | .ptr,.gx=>if c.w=1 then some {c with a:= .sD c.a i (.lit 0)}else none
 | .ptr,.n8 e=>if c.w=1 then some {c with a:= .sD c.a i e}else none
 | .bU,.bU=>if c.w=1 then some c else none
 | .str,.str l=>if c.w=1 then some {c with a:= .po c.a i (zY l)}else none
 | .str,.kK s=>if c.w=1 then some {c with a:= .po c.a i s}else none
 | .cv,.Kg e=>if c.w=1 then some {c with a:= .sD c.a i e}else none
 | .cv,.bU=>if c.w=1 then some {c with a:= .sD c.a i (.lit 0)}else none
 | _,_=>none
def vq:Nat→E→List SV→Option (List IntKind×E)
 | _,acc,[]=>some ([],acc)
 | o,acc,.int k e::r=>match vq (o+1) (.sD acc (.lit o) e) r with
  | some (l,a)=>some (k::l,a)
  | none=>none
 | o,acc,.b_ k n b::r=>match vq (o+n) (.rl acc (.lit o) (.lit n) b) r with
  | some (l,a)=>some (List.replicate n k++l,a)
  | none=>none
 | _,_,_=>none
def rowOf(cs:List SV):Option (List IntKind×E):=
 match cs with
 | [.b_ k n a]=>some (List.replicate n k,a)
 | [.int k e]=>some ([k],e)
 | cs=>vq 0 (.lit 0) cs
def align:List bR→List SV→Option (List SV)
 | _,[]=>some []
 | [],v::r=>some (v::r)
 | c::aD,v::r=>
  if v.width=c.w then(align aD r).map (v:: ·)else
  match c.ck,jl 0 c.w (v::r),e_ c.w (v::r)with
  | .int k,some x,some rest=>
   match rowOf x with
   | some (kl,a)=>if kl=List.replicate c.w k then(align aD rest).map (.b_ k c.w a:: ·)else none
   | none=>none
  | _,_,_=>none
def nF(i:E):List SV→List bR→Option (List bR)
 | [],aD=>some aD
 | v::r,c::aD=>match B7 i v c,nF i r aD with
  | some c',some aT=>some (c'::aT)
  | _,_=>none
 | _::_,[]=>none
def ld(i:E)(vs:List SV)(aD:List bR):Option (List bR):=
 match align aD vs with
 | some Gv=>nF i Gv aD
 | none=>none
def nG(i:E)(vs:List SV):Nat→List bR→Option (List bR)
 | 0,aD=>ld i vs aD
 | _+1,[]=>none
 | o+1,c::r=>if c.w≤o+1 then(nG i vs (o+1 - c.w) r).map (c:: ·)else none
def IU(c:Nat)(cs:List SV):Option (List SV×IntKind×Nat×E×List SV):=
 if c≤jY cs then
  match e_ c cs,gX c cs with
  | some (.b_ k n a::r),some pre=>some (pre,k,n,a,r)
  | _,_=>none
 else none
inductive zX where
 | none
 | new (ck:Ck)
 | set (i:Nat) (ck:Ck)
 | app (i:Nat) (ck:Ck)
 | own (ck:Ck)
 | DH (ck:Ck)
 deriving Repr
structure hU where
 val:SV
 vcs:List BE:=[]
 rd:List Nat:=[]
 hZ:zX:= .none
 deriving Repr
def uB(o:BinOp)(x y:SV):Option hU:=
 match x,y with
 | .str a,.str b=>
  match o with
  | .add=>if a.length+b.length≤1000000 then some {val:= .str (a++b)}else none
  | .eql=>some {val:= .bool (.lit (a==b))}
  | .neq=>some {val:= .bool (.lit (!(a==b)))}
  | _=>none
 | x,y=>
  match pz x,pz y with
  | some a,some b=>
   match o with
   | .add=>some {val:= .kK (Ko a b),vcs:=J6 (kp a)++J6 (kp b)++[xd (du (kp a) (kp b)) (.lit 9223372036854775807)]}
   | .eql=>some {val:= .bool (Qt a b)}
   | .neq=>some {val:= .bool (iI (Qt a b))}
   | _=>none
  | _,_=>none
 where J6 (b:E):List BE:=[xd (.lit 0) b].filter fun b=>b != .lit true
def Iv(v:SV)(j:E):Option hU:=
 match v with
 | .str l=>
  match j with
  | .lit (.ofNat i)=>if i<l.length then some {val:= .int .u8 (.lit (l.getD i 0).toNat)}else none
  | j=>some {val:= .int .u8 (gp (.o3 (l.map fun b=>((b.toNat:Nat):Int))) j),vcs:=[xd (.lit 0) j,GR j (.lit l.length)].filter fun b=>b != .lit true}
 | .kK s=>some {val:= .int .u8 (gp (Kl s) j),vcs:=[xd (.lit 0) j,GR j (kp s)].filter fun b=>b != .lit true}
 | _=>none
def sr(s a b:E):hU:={val:= .kK (AP s a b),vcs:=ZN (.lit 0) a++ZN a b++ZN b (kp s)}
 where ZN (a b:E):List BE:=if a=b then []else [xd a b].filter fun b=>b != .lit true
def zO(v:SV)(lo hi:Option E):Option hU:=
 match v with
 | .str l=>
  match lo.getD (.lit 0),hi.getD (.lit l.length)with
  | .lit (.ofNat a),.lit (.ofNat b)=>if a≤b∧b≤l.length then some {val:= .str ((l.take b).drop a)}else none
  | a,b=>some (sr (zY l) a b)
 | .kK s=>some (sr s (lo.getD (.lit 0)) (hi.getD (kp s)))
 | _=>none
structure cz where
 b:Nat:=0
 v:Nat:=0
 i:Nat:=0
 a:Nat:=0
 bo:Nat:=0
 p:Nat:=0
 r:Nat:=0
 deriving Repr,DecidableEq
def DZ(b:Nat)(i:E)(s c:Nat):SV:=
 match eR i with
 | some n=> .ptr b (n*s+c)
 | none=> .o5 b i s c
def dC(a b:E):List BE:=if a=b then []else [xd a b].filter fun b=>b != .lit true
def sP:Nat→E→List SV→Option E
 | _,acc,[]=>some acc
 | o,acc,.str l::r=>sP (o+1) (.po acc (.lit o) (zY l)) r
 | o,acc,.kK s::r=>sP (o+1) (.po acc (.lit o) s) r
 | _,_,_=>none
def M0(cs:List SV):Option E:=sP 0 (.lit 0) cs
def w7(hp:List Ck)(agg:Bool)(size:Nat):SV→Option hU
 | .ptr b c=>
  match findAt hp b with
  | some (j,.row _ _ cs)=>
   match jl c size cs with
   | some x=>(iF agg x).map fun v=>{val:=v,rd:=[j]}
   | none=>none
  | _=>none
 | .o5 b i s c=>
  match findAt hp b with
  | some (j,.row _ _ cs)=>
   if s=1∧size=1∧agg=false then
    match IU c cs with
    | some (_,k,n,a,_)=>some {val:= .int k (gp a i),vcs:=gZ i (.lit n),rd:=[j]}
    | none=>if c=0 then match M0 cs with
     | some a=>some {val:=mkStr (BZ a i),vcs:=gZ i (.lit cs.length),rd:=[j]}
     | none=>none
     else none
   else none
  | _=>none
 | .pv v i s c=>
  match cG hp v with
  | some (j,.bK _ _ _ s' n aD)=>
   if s=s'∧s=bT aD then
    if s<size then
     match aD with
     | [⟨.int k,1,a⟩]=>if c=0∧agg=true then some {val:= .agg [.b_ k size (jT a i)],vcs:=dC (.lit 0) i++dC (du i (.lit size)) n,rd:=[j]}else none
     | _=>none
    else
    match nD i aD with
    | some es=>match jl c size es with
     | some y=>(iF agg y).map fun x=>{val:=x,vcs:=gZ i n,rd:=[j]}
     | none=>none
    | none=>none
   else none
  | _=>none
 | _=>none
def yd(hp:List Ck)(size:Nat)(v:SV):SV→Option hU
 | .ptr b c=>
  match findAt hp b,ej v with
  | some (j,.row b' true cs),some vs=>
   if jY vs=size then
    (xU c vs cs).map fun xJ=>{val:= .undef,rd:=[j],hZ:= .set j (.row b' true xJ)}
   else none
  | _,_=>none
 | .o5 b i s c=>
  match findAt hp b,ej v with
  | some (j,.row b' true cs),some [.int k e]=>
   if s=1∧size=1 then
    match IU c cs with
    | some (pre,k',n,a,post)=>if k=k' then some {val:= .undef,vcs:=gZ i (.lit n),rd:=[j],hZ:= .set j (.row b' true (pre++ .b_ k n (.sD a i e)::post))}else none
    | none=>none
   else none
  | _,_=>none
 | .pv x i s c=>
  match cG hp x,ej v with
  | some (j,.bK true x' t s' n aD),some vs=>
   if s=s'∧s=bT aD∧0<size∧jY vs=size then
    (nG i vs c aD).map fun aT=>{val:= .undef,vcs:=gZ i n,rd:=[j],hZ:= .set j (.bK true x' t s' n aT)}
   else none
  | _,_=>none
 | _=>none
def lf:List SV→List SV→Option BE
 | [],[]=>some (.lit true)
 | .int k a::r,.int k' b::r'=>if k=k' then(lf r r').map (zZ (Uq a b))else none
 | .bool a::r,.bool b::r'=>(lf r r').map (zZ (DN a b (iI b)))
 | .b_ k n a::r,.b_ k' n' b::r'=>if k=k'∧n=n' then(lf r r').map (zZ (if a=b then .lit true else .S_ n a b))else none
 | _,_=>none
def mE:List SV→List SV
 | []=>[]
 | .b_ k n a::r=>((ajw n).map fun j:Nat=>SV.int k (gp a (.lit j)))++mE r
 | v::r=>v::mE r
def yh(a b:List SV):Option BE:=
 match lf a b with
 | some c=>some c
 | none=>lf (mE a) (mE b)
def ptrEq(k:TK)(x y:SV):Option BE:=
 match k,x,y with
 | .ptr _,.gx,.gx=>some (.lit true)
 | .ptr _,.gx,.ptr .. =>some (.lit false)
 | .ptr _,.ptr ..,.gx=>some (.lit false)
 | .ptr _,.gx,.o5 .. =>some (.lit false)
 | .ptr _,.o5 ..,.gx=>some (.lit false)
 | .ptr _,.gx,.n8 e=>some (Uq e (.lit 0))
 | .ptr _,.n8 e,.gx=>some (Uq e (.lit 0))
 | .slice _,.bU,.bU=>some (.lit true)
 | .slice _,.bU,.sl .. =>some (.lit false)
 | .slice _,.sl ..,.bU=>some (.lit false)
 | .func,.mh,.mh=>some (.lit true)
 | .func,.mh,.fn .. =>some (.lit false)
 | .func,.fn ..,.mh=>some (.lit false)
 | _,_,_=>none
def IntKind.lo:IntKind→Int
 | .i8=> -128 | .i16=> -32768 | .i32=> -2147483648 | .i64=> -9223372036854775808 | _=>0
def IntKind.hi:IntKind→Int
 | .i8=>127 | .i16=>32767 | .i32=>2147483647 | .i64=>9223372036854775807
 | .u8=>255 | .u16=>65535 | .u32=>4294967295 | .u64=>18446744073709551615
def ua:IntKind→Bool
 | .i8 | .i16 | .i32 | .i64=>true
 | _=>false
def yf(k:IntKind)(e:E):E×List BE:=
 match e with
 | .lit n=>(.lit (k.wrap n),[])
 | _=>if ua k then(e,[.le (.lit (IntKind.lo k)) e,.le e (.lit (IntKind.hi k))])else(.wrap k e,[])
def yg(k:IntKind)(e:E):E×List BE:=
 match e with
 | .wrap .u64 (.bin .sub .i64 (.lit 0) _)=>if ua k then(.wrap k e,[])else yf k e
 | _=>yf k e
def og(b:E):List BE:=[xd (.lit 0) b].filter fun b=>b != .lit true
def mS(ti:TI)(o:BinOp)(x y:SV):Option hU:=
 match x,y with
 | .int k a,.int k' b=>
  match o with
  | .shl=>some {val:= .int k (ux .shl k a b),vcs:=og b}
  | .shr=>some {val:= .int k (ux .shr k a b),vcs:=og b}
  | _=>
  if k≠k' then none else
  match o with
  | .add=>let (e,vc):=yf k (du a b);some {val:= .int k e,vcs:=vc}
  | .sub=>let (e,vc):=yf k (uw a b);some {val:= .int k e,vcs:=vc}
  | .mul=>let (e,vc):=yf k (pw a b);some {val:= .int k e,vcs:=vc}
  | .quo=>some {val:= .int k (MW k (ux .quo k a b)),vcs:=[Qu b]}
  | .rem=>some {val:= .int k (ux .rem k a b),vcs:=[Qu b]}
  | .and=>some {val:= .int k (ux .aM k a b)}
  | .or=>some {val:= .int k (ux .bC k a b)}
  | .xor=>some {val:= .int k (ux .aB k a b)}
  | .andNot=>some {val:= .int k (ux .kY k a b)}
  | .eql=>some {val:= .bool (Uq a b)}
  | .neq=>some {val:= .bool (iI (Uq a b))}
  | .lss=>some {val:= .bool (GR a b)}
  | .leq=>some {val:= .bool (xd a b)}
  | .gtr=>some {val:= .bool (GR b a)}
  | .geq=>some {val:= .bool (xd b a)}
  | _=>none
 | .bool a,.bool b=>
  if ti.k≠ .bool then none else
  match o with
  | .eql=>some {val:= .bool (DN a b (iI b))}
  | .neq=>some {val:= .bool (iI (DN a b (iI b)))}
  | _=>none
 | .agg a,.agg b=>
  if !ti.k.agg||ti.lay.isEmpty|| !(pH a (kq ti.lay))|| !(pH b (kq ti.lay))then none else
  match o,yh a b with
  | .eql,some c=>some {val:= .bool c}
  | .neq,some c=>some {val:= .bool (iI c)}
  | _,_=>none
 | a,b=>
  if ti.k= .str then uB o a b else
  match o,ptrEq ti.k a b with
  | .eql,some c=>some {val:= .bool c}
  | .neq,some c=>some {val:= .bool (iI c)}
  | _,_=>none
def j_(place:Nat→Option (Nat×Nat))(cells:List SV):List (Nat×List SV)→Option (List SV)
 | []=>some cells
 | (i,cs)::r=>
  match place i with
  | some (off,size)=>
   if jY cs=size then
    match xU off cs cells with
    | some Wp=>j_ place Wp r
    | none=>none
   else none
  | none=>none
def gG(T:List TI)(fs:List (Nat×Nat))(i:Nat):Option (Nat×Nat):=
 match fs[i]? with
 | some (t,off)=>(aU T t).map fun ti=>(off,ti.size)
 | none=>none
def jX(size:Nat)(i:Nat):Option (Nat×Nat):=some (i*size,size)
def pJ(T:List TI)(fs:List (Nat×Nat)):Bool:=fs.all fun f=>(aU T f.1).isSome
def partsOf(look:Nat→Option SV):List (Nat×Operand)→Option (List (Nat×List SV))
 | []=>some []
 | (i,x)::r=>
  match iJ look x,partsOf look r with
  | some v,some rest=>(ej v).map fun cs=>(i,cs)::rest
  | _,_=>none
def jm:List (Option SV)→Option (List SV)
 | []=>some []
 | some v::r=>(jm r).map (v:: ·)
 | none::_=>none
def C9(c:BE)(a b:SV):Option SV:=
 match c with
 | .lit true=>some a
 | .lit false=>some b
 | c=>
  match a,b with
  | .bool x,.bool y=>some (.bool (DN c x y))
  | .bool x,.opt g (.bool y)=>if g=iI c then some (.bool (DN c x y))else none
  | .opt g (.bool x),.bool y=>if g=c then some (.bool (DN c x y))else none
  | _,_=>none
structure Part where
 lo:E
 len:E
 mx:Option E
 deriving Repr
def mG(n:E)(p:Part)(c:Cut):Part×List BE:=
 (⟨du p.lo c.lo,uw c.hi c.lo,match c.mx with | some m=>some (du p.lo m) | none=>p.mx⟩,
  dC (.lit 0) c.lo++dC c.lo c.hi++
  match c.mx,p.mx with
  | none,none=>dC (du p.lo c.hi) n
  | none,some m0=>dC (du p.lo c.hi) m0
  | some m,none=>dC c.hi m++dC (du p.lo m) n
  | some m,some m0=>dC c.hi m++dC (du p.lo m) m0)
def rX(n:E):List Cut→Part→Part×List BE
 | [],p=>(p,[])
 | c::r,p=>((rX n r (mG n p c).1).1,(mG n p c).2++(rX n r (mG n p c).1).2)
structure Rt where
 j:Nat
 md:Bool
 v:Nat
 t:Nat
 s:Nat
 n:E
 aD:List bR
 p:Part
 vcs:List BE
def fB(hp:List Ck):SV→Option Rt
 | .vv v=>match cG hp v with
  | some (j,.bK md _ t s n aD)=>some ⟨j,md,v,t,s,n,aD,⟨.lit 0,n,none⟩,[]⟩
  | _=>none
 | .kg v cs s'=>match cG hp v with
  | some (j,.bK md _ t s n aD)=>if s=s' then some ⟨j,md,v,t,s,n,aD,(rX n cs ⟨.lit 0,n,none⟩).1,(rX n cs ⟨.lit 0,n,none⟩).2⟩else none
  | _=>none
 | _=>none
def Iw(hp:List Ck)(k:TK)(v:SV):Option hU:=
 match k with
 | .slice _=>
  match v with
  | .sl _ _ _ n _=>some {val:= .int .i64 n,vcs:=og n}
  | .bU=>some {val:= .int .i64 (.lit 0)}
  | .vv v=>
   match cG hp v with
   | some (j,.bK _ _ _ _ n _)=>some {val:= .int .i64 n,vcs:=og n,rd:=[j]}
   | _=>none
  | .kg v cs s=>
   match fB hp (.kg v cs s)with
   | some r=>some {val:= .int .i64 r.p.len,vcs:=r.vcs++dC (.lit 0) r.p.len,rd:=[r.j]}
   | none=>none
  | _=>none
 | .str=>
  match v with
  | .str l=>some {val:= .int .i64 (.lit l.length)}
  | .kK s=>some {val:= .int .i64 (kp s),vcs:=og (kp s)}
  | _=>none
 | _=>none
mutual
def ur(T:List TI):Nat→Nat→Option (List bR)
 | 0,_=>none
 | d+1,t=>
  match aU T t with
  | some {k:= .int k,.. }=>some [⟨.int k,1,.lit 0⟩]
  | some {k:= .bool,.. }=>some [⟨.bool,1,.lit 0⟩]
  | some {k:= .ptr _,.. }=>some [⟨.ptr,1,.lit 0⟩]
  | some {k:= .slice _,.. }=>some [⟨.bU,1,.lit 0⟩]
  | some {k:= .str,.. }=>some [⟨.str,1,.lit 0⟩]
  | some {k:= .arr n e,.. }=>match aU T e with
   | some {k:= .int k,.. }=>some [⟨.int k,n,.lit 0⟩]
   | _=>none
  | some {k:= .struct fs,.. }=>J7 T d fs
  | _=>none
def J7(T:List TI):Nat→List (Nat×Nat)→Option (List bR)
 | 0,_=>none
 | _+1,[]=>some []
 | d+1,(t,_)::r=>match ur T d t,J7 T d r with
  | some a,some b=>some (a++b)
  | _,_=>none
end
def ve(T:List TI)(hp:List Ck)(nv:Nat)(k:TK)(x y:SV):Option hU:=
 match x,y with
 | .vv v,.sl b i s m _=>
  match cG hp v,findAt hp b with
  | some (j,.bK true _ t s' n aD),some (j',.row _ _ cs)=>
   match ld n cs aD,aU T t with
   | some aT,some te=>
    if i= .lit 0∧m= .lit 1∧k= .slice t∧s=s'∧s=bT aD∧jY cs=s∧0<s∧cs.all SV.one=true∧te.size=s then
     some {val:= .vv nv,vcs:=og n++[.le (.bin .mul .i64 (.bin .add .i64 n (.lit 1)) (.lit (max 1 te.bytes:Nat))) (.lit 140737488355328)],rd:=[j,j'],hZ:= .app j (.bK true nv t s (du n (.lit 1)) aT)}
    else none
   | _,_=>none
  | _,_=>none
 | .bU,.sl b i s m _=>
  match findAt hp b,k with
  | some (j',.row _ _ cs),.slice t=>
   match aU T t,ur T 30 t with
   | some te,some aD=>
    match ld (.lit 0) cs aD with
    | some aT=>
     if i= .lit 0∧m= .lit 1∧s=bT aD∧jY cs=s∧0<s∧cs.all SV.one=true∧te.size=s∧te.bytes≤140737488355328 then
      some {val:= .vv nv,rd:=[j'],hZ:= .own (.bK true nv t s (.lit 1) aT)}
     else none
    | none=>none
   | _,_=>none
  | _,_=>none
 | _,_=>none
def yp(x:SV)(c:Cut)(s:Nat):Option SV:=
 match x with
 | .vv v=>some (.kg v [c] s)
 | .kg v cs s'=>if s=s' then some (.kg v (cs++[c]) s)else none
 | _=>none
def yr(T:List TI)(hp:List Ck)(k:TK)(x:SV)(lo hi mx:Option E):Option hU:=
 if mx.isSome&&hi.isNone then none else
 match k,x with
 | .slice e,.sl b i s n m=>
  match aU T e with
  | some te=>
   if te.size=s then
    let l:=lo.getD (.lit 0)
    let h:=hi.getD n
    let mm:=mx.getD m
    some {val:= .sl b (du i l) s (uw h l) (uw mm l),vcs:=dC (.lit 0) i++dC (.lit 0) l++dC l h++dC h mm++dC mm m++dC (.lit 0) n++(if l= .lit 0 then []else [GR l mm].filter fun b=>b != .lit true)}
   else none
  | none=>none
 | .slice e,.bU=>
  match aU T e with
  | some _=>if lo.getD (.lit 0)= .lit 0∧hi.getD (.lit 0)= .lit 0∧mx.getD (.lit 0)= .lit 0 then some {val:= .bU}else none
  | none=>none
 | .slice e,x=>
  match aU T e,fB hp x with
  | some te,some r=>
   if te.size=r.s then
    let c:Cut:=⟨lo.getD (.lit 0),hi.getD r.p.len,mx⟩
    match yp x c r.s with
    | some v=>some {val:=v,vcs:=r.vcs++(mG r.n r.p c).2,rd:=[r.j]}
    | none=>none
   else none
  | _,_=>none
 | .arr n e,.ptr b c=>
  match aU T e with
  | some te=>
   if te.size≠0∧c%te.size=0 then
    let l:=lo.getD (.lit 0)
    let h:=hi.getD (.lit n)
    let mm:=mx.getD (.lit n)
    some {val:= .sl b (du (.lit (c/te.size:Nat)) l) te.size (uw h l) (uw mm l),vcs:=dC (.lit 0) l++dC l h++dC h mm++dC mm (.lit n)++(if l= .lit 0 then []else [GR l mm].filter fun b=>b != .lit true)}
   else none
  | none=>none
 | _,_=>none
def D2(lo:E)(c:bR):Option bR:=
 match c.ck with
 | .val _=>if lo= .lit 0 then some c else none
 | .Gt _=>if lo= .lit 0 then some c else none
 | .pt _ _=>if lo= .lit 0 then some c else none
 | .str=>if lo= .lit 0 then some c else none
 | _=>some {c with a:=jT c.a (pw lo (.lit c.w))}
def gV(lo:E):List bR→Option (List bR)
 | []=>some []
 | c::r=>match D2 lo c,gV lo r with
  | some a,some b=>some (a::b)
  | _,_=>none
def G6(at_ m:E)(d s:bR):Option bR:=
 if d.w≠s.w then none else
 match d.ck,s.ck with
 | .int k,.int k'=>if k=k' then some {d with a:= .rl d.a (pw at_ (.lit d.w)) (pw m (.lit d.w)) s.a}else none
 | .bool,.bool=>some {d with a:= .rl d.a (pw at_ (.lit d.w)) (pw m (.lit d.w)) s.a}
 | .ptr,.ptr=>some {d with a:= .rl d.a (pw at_ (.lit d.w)) (pw m (.lit d.w)) s.a}
 | .bU,.bU=>some d
 | .str,.str=>if m= .lit 1∧d.w=1 then some {d with a:= .po d.a at_ (BZ s.a (.lit 0))}else if m= .lit 0 then some d else none
 | _,_=>none
def gl(at_ m:E):List bR→List bR→Option (List bR)
 | [],[]=>some []
 | d::r,s::r'=>match G6 at_ m d s,gl at_ m r r' with
  | some a,some b=>some (a::b)
  | _,_=>none
 | _,_=>none
structure Src where
 rd:List Nat
 vcs:List BE
 n:E
 aD:List bR
def sZ(s:Nat):Nat→Nat→List SV→List bR→Option (List bR)
 | 0,_,_,aD=>some aD
 | k+1,i,cs,aD=>
  match jl 0 s cs,e_ s cs with
  | some a,some b=>match ld (.lit i) a aD with
   | some aT=>sZ s k (i+1) b aT
   | none=>none
  | _,_=>none
def AV(T:List TI)(hp:List Ck)(te:TI)(y:SV):Option Src:=
 match y with
 | .bU=>match ur T 30 te.t with
  | some aD=>if te.size=bT aD then some ⟨[],[],.lit 0,aD⟩else none
  | none=>none
 | .sl b i s m _=>
  match findAt hp b with
  | some (j,.row _ _ cs)=>
   if s≠te.size then none else
   match eR i,eR m with
   | some i0,some m0=>
    match jl (i0*s) (m0*s) cs with
    | some [.b_ k N a]=>if s=1∧N=m0 then some ⟨[j],[],.lit m0,[⟨.int k,1,a⟩]⟩else none
    | some x=>
     if x.all SV.one then
      match ur T 30 te.t with
      | some aD=>if s=bT aD then(sZ s m0 0 x aD).map fun aT=>⟨[j],[],.lit m0,aT⟩else none
      | none=>none
     else none
    | none=>none
   | _,_=>
    match cs with
    | [.b_ k N a]=>if s=1 then some ⟨[j],dC (.lit 0) i++dC (.lit 0) m++dC (du i m) (.lit N),m,[⟨.int k,1,jT a i⟩]⟩else none
    | _=>none
  | _=>none
 | x=>
  match fB hp x with
  | some r=>
   if r.s=te.size∧r.s=bT r.aD then
    (gV r.p.lo r.aD).map fun aD=>⟨[r.j],r.vcs++dC (.lit 0) r.p.len,r.p.len,aD⟩
   else none
  | none=>none
def ou(n:E)(bytes:Nat):BE:=xd (pw n (.lit (max 1 bytes:Nat))) (.lit 140737488355328)
def PR(y:SV)(v:Nat):Bool:=
 match y with
 | .vv v'=>v'==v
 | .kg v' _ _=>v'==v
 | _=>false
def rZ(T:List TI)(hp:List Ck)(nv:Nat)(k:TK)(x y:SV):Option hU:=
 match k with
 | .slice t=>
  match aU T t with
  | some te=>
   match AV T hp te y with
   | some sc=>
    if te.size=0 then none else
    match x with
    | .bU=>some {val:= .vv nv,vcs:=sc.vcs++dC (.lit 0) sc.n++[ou sc.n te.bytes],rd:=sc.rd,hZ:= .own (.bK true nv t te.size sc.n sc.aD)}
    | .sl b i s n m=>
     match AV T hp te (.sl b i s n m),eR sc.n with
     | some x,some (_+1)=>
      if x.n=n∧n=m∧s=te.size then
       (gl n sc.n x.aD sc.aD).map fun aT=>{val:= .vv nv,vcs:=x.vcs++sc.vcs++dC (.lit 0) n++[ou (du n sc.n) te.bytes],rd:=x.rd++sc.rd,hZ:= .own (.bK true nv t te.size (du n sc.n) aT)}
      else none
     | _,_=>none
    | x=>
     match fB hp x with
     | some r=>
      if r.t=t∧r.s=te.size∧r.s=bT r.aD∧r.md=true then
       if PR y r.v then
        match x,gl (du r.p.lo r.p.len) sc.n r.aD sc.aD with
        | .kg v [⟨lo,hi,none⟩] s,some aT=>
         some {val:= .kg v [⟨lo,du hi sc.n,none⟩] s,vcs:=r.vcs++sc.vcs++dC (.lit 0) sc.n++dC (du hi sc.n) r.n,rd:=r.j::sc.rd,hZ:= .set r.j (.bK true r.v t r.s r.n aT)}
        | _,_=>none
       else
        match gV r.p.lo r.aD with
        | some rc=>
         match (if r.p.len= .lit 0 then some sc.aD else gl r.p.len sc.n rc sc.aD)with
         | some aT=>
          some {val:= .vv nv,vcs:=r.vcs++sc.vcs++dC (.lit 0) r.p.len++dC (.lit 0) sc.n++[ou (du r.p.len sc.n) te.bytes],rd:=r.j::sc.rd,hZ:= .app r.j (.bK true nv t r.s (du r.p.len sc.n) aT)}
         | none=>none
        | none=>none
      else none
     | none=>none
   | none=>none
  | none=>none
 | _=>none
def jt:List SV→List bR→Bool
 | [],[]=>true
 | .int k (.lit 0)::r,⟨.int k',w,.lit 0⟩::aD=>k==k'&&w==1&&jt r aD
 | .bool (.lit false)::r,⟨.bool,w,.lit 0⟩::aD=>w==1&&jt r aD
 | .b_ k n (.lit 0)::r,⟨.int k',w,.lit 0⟩::aD=>k==k'&&w==n&&jt r aD
 | .gx::r,⟨.ptr,w,.lit 0⟩::aD=>w==1&&jt r aD
 | .bU::r,⟨.bU,w,_⟩::aD=>w==1&&jt r aD
 | .str []::r,⟨.str,w,.lit 0⟩::aD=>w==1&&jt r aD
 | _,_=>false
def gI(T:List TI)(te:TI):Option (List bR):=
 match ur T 30 te.t with
 | some aD=>if jt te.zero aD&&bT aD==te.size&& !(te.size==0)then some aD else none
 | none=>none
def yy(T:List TI)(hp:List Ck)(k:TK)(x:SV):Option hU:=
 match k,x with
 | .slice _,.bU=>some {val:= .undef}
 | .slice e,x=>
  match aU T e,fB hp x with
  | some te,some r=>
   match gI T te with
   | some z=>
    if r.s=te.size∧r.s=bT r.aD∧r.md=true then
     (gl r.p.lo r.p.len r.aD z).map fun aT=>{val:= .undef,vcs:=r.vcs++dC (.lit 0) r.p.len,rd:=[r.j],hZ:= .set r.j (.bK true r.v r.t r.s r.n aT)}
    else none
   | none=>none
  | _,_=>none
 | _,_=>none
def wP:E→E→E
 | .lit a,.lit b=> .lit (min a b)
 | a,b=>if a=b then a else .bin .jJ .i64 a b
def Cf(T:List TI)(hp:List Ck)(k:TK)(x y:SV):Option hU:=
 match k with
 | .slice t=>
  match aU T t with
  | some te=>
   match AV T hp te y with
   | some sc=>
    match x with
    | .sl b i s n _=>
     match findAt hp b with
     | some (j,.row b' true cs)=>
      if s≠te.size∨s=0 then none else
      match cs with
      | [.b_ k N a]=>
       match sc.aD with
       | [⟨.int k',1,a'⟩]=>
        if s=1∧k=k' then
         some {val:= .int .i64 (wP sc.n n),vcs:=sc.vcs++dC (.lit 0) sc.n++dC (.lit 0) i++dC (.lit 0) n++dC (du i n) (.lit N),rd:=j::sc.rd,hZ:= .set j (.row b' true [.b_ k N (.rl a i (wP sc.n n) a')])}
        else none
       | _=>none
      | _=>
       match eR i,eR n,eR sc.n,sc.aD with
       | some i0,some n0,some m0,[⟨.int k',1,a'⟩]=>
        if s=1 then
         (xU i0 [.b_ k' (min m0 n0) a'] cs).map fun xJ=>{val:= .int .i64 (.lit (min m0 n0:Nat)),vcs:=sc.vcs,rd:=j::sc.rd,hZ:= .set j (.row b' true xJ)}
        else none
       | _,_,_,_=>none
     | _=>none
    | x=>
     match fB hp x with
     | some r=>
      if r.t=t∧r.s=te.size∧r.s=bT r.aD∧r.md=true∧0<r.s then
       (gl r.p.lo (wP sc.n r.p.len) r.aD sc.aD).map fun aT=>
        {val:= .int .i64 (wP sc.n r.p.len),vcs:=r.vcs++sc.vcs++dC (.lit 0) r.p.len++dC (.lit 0) sc.n,rd:=r.j::sc.rd,hZ:= .set r.j (.bK true r.v t r.s r.n aT)}
      else none
     | none=>none
   | none=>none
  | none=>none
 | _=>none
def Ce(T:List TI)(nv:Nat)(k:TK)(n c:E):Option hU:=
 match k with
 | .slice t=>
  match aU T t with
  | some te=>
   match gI T te with
   | some z=>some {val:= .vv nv,vcs:=dC (.lit 0) n++dC n c++[ou c te.bytes],hZ:= .own (.bK true nv t te.size n z)}
   | none=>none
  | none=>none
 | _=>none
def Ci(T:List TI)(hp:List Ck)(nv:Nat)(k:TK)(x:SV)(m:E):Option hU:=
 match k,x with
 | .slice t,.vv v=>
  match aU T t,cG hp v with
  | some te,some (j,.bK true _ t' s n aD)=>
   match gI T te with
   | some z=>
    match gl n m aD z with
    | some aT=>
     if t'=t∧s=te.size∧s=bT aD then
      some {val:= .vv nv,vcs:=dC (.lit 0) n++dC (.lit 0) m++[ou (du n m) te.bytes],rd:=[j],hZ:= .app j (.bK true nv t s (du n m) aT)}
     else none
    | none=>none
   | none=>none
  | _,_=>none
 | .slice t,.bU=>
  match aU T t with
  | some te=>
   match gI T te with
   | some z=>
    if te.size=bT z then
     some {val:= .vv nv,vcs:=dC (.lit 0) m++[ou m te.bytes],hZ:= .own (.bK true nv t te.size m z)}
    else none
   | none=>none
  | none=>none
 | _,_=>none
def uK(T:List TI)(hp:List Ck)(nv:Nat)(k:TK)(x y:SV):Option hU:=
 match k,x with
 | .slice t,.sl b i s n m=>
  match aU T t,findAt hp b,eR i,eR n with
  | some te,some (j,.row _ true cs),some 0,some q=>
   match rowOf cs,AV T hp te y with
   | some (ki::kl,a),some sc=>
    if n=m∧s=1∧te.size=1∧kl.length+1=q∧ki::kl=List.replicate q ki then
     (gl (.lit q) sc.n [⟨.int ki,1,a⟩] sc.aD).map fun aT=>
      {val:= .vv nv,vcs:=sc.vcs++dC (.lit 0) sc.n++[ou (du (.lit q) sc.n) te.bytes],rd:=j::sc.rd,hZ:= .app j (.bK true nv t 1 (du (.lit q) sc.n) aT)}
    else none
   | _,_=>none
  | _,_,_,_=>none
 | _,_=>none
def xh:List SV→Option (List Nat)
 | []=>some []
 | .vv i::r=>(xh r).map (i:: ·)
 | _=>none
def s_(hp:List Ck):SV→Option (Nat×List Nat)
 | .sl b i _ n _=>
  match findAt hp b,eR i,eR n with
  | some (j,.row _ _ cs),some 0,some q=>
   match xh cs with
   | some l=>if l.length=q then some (j,l)else none
   | none=>none
  | _,_,_=>none
 | _=>none
def uL(T:List TI)(hp:List Ck)(nv:Nat)(k:TK)(x y:SV):Option hU:=
 match k,x with
 | .slice t,.sl b i s n m=>
  match aU T t,s_ hp (.sl b i s n m),s_ hp y with
  | some te,some (j,l),some (j',l')=>
   if n=m∧te.size=1∧l'.length≠0∧(l.length+l'.length)*te.bytes≤140737488355328∧l.length+l'.length≤140737488355328 then
    some {val:= .vv nv,rd:=[j,j'],hZ:= .own (.bK true nv t 1 (.lit (l.length+l'.length:Nat)) [⟨.Gt (l++l'),1,.lit 0⟩])}
   else none
  | _,_,_=>none
 | _,_=>none
def vf(T:List TI)(hp:List Ck)(nv:Nat)(tt:TI)(ts W3:Nat)(x y:SV):Option hU:=
 if ts=W3 then(match ve T hp nv tt.k x y with | some r=>some r | none=>match rZ T hp nv tt.k x y with | some r=>some r | none=>match uK T hp nv tt.k x y with | some r=>some r | none=>uL T hp nv tt.k x y)else(match aU T W3,y with
    | some ti,.int _ m=>match ti.k with
     | .int _=>Ci T hp nv tt.k x m
     | _=>none
    | _,_=>none)
def Nd(a:E)(i:Nat):Option Int:=
 match gp a (.lit i)with
 | .lit n=>some n
 | _=>none
def uG(a:E):Nat→Option (List Int)
 | 0=>some []
 | n+1=>match uG a n,Nd a n with
  | some l,some x=>some (l++[x])
  | _,_=>none
def QM(n:Nat)(a:E):E:=
 match uG a n with
 | some l=> .lit (bG l:Nat)
 | none=> .kc n a
def r7:List gj→Option (List IntKind)
 | []=>some []
 | some k::r=>(r7 r).map (k:: ·)
 | none::_=>none
def pU(ti:TI):Option (List IntKind×Bool):=
 match ti.k with
 | .int k=>some ([k],false)
 | .struct _=>if ti.lay.isEmpty then none else(r7 (kq ti.lay)).map fun l=>(l,true)
 | .arr .. =>if ti.lay.isEmpty then none else(r7 (kq ti.lay)).map fun l=>(l,true)
 | _=>none
def s7(ka:Bool)(k:SV):Option (List SV):=
 match ka,k with
 | true,.agg cs=>some cs
 | false,.int q e=>some [.int q e]
 | _,_=>none
def uH(T:List TI)(te:TI):Option (List bR):=
 if te.size=0 then(if te.zero.isEmpty&&te.k.agg then some []else none)else gI T te
def Ck.isMap(b:Nat):Ck→Bool
 | .map b' .. =>b==b'
 | .sJ b' .. =>b==b'
 | _=>false
def xg(hp:List Ck)(b:Nat):Option (Nat×Ck):=
 match hp.findIdx? (Ck.isMap b)with
 | some i=>(hp[i]?).map fun c=>(i,c)
 | none=>none
def eL:List SV→List SV→Bool
 | [],[]=>true
 | .int k (.lit n)::r,.int k' (.lit m)::s=>k==k'&&n==m&&eL r s
 | .bool (.lit a)::r,.bool (.lit b)::s=>a==b&&eL r s
 | .b_ k n (.lit a)::r,.b_ k' n' (.lit b)::s=>k==k'&&n==n'&&a==b&&eL r s
 | .gx::r,.gx::s=>eL r s
 | .bU::r,.bU::s=>eL r s
 | .mh::r,.mh::s=>eL r s
 | .sF::r,.sF::s=>eL r s
 | .qY::r,.qY::s=>eL r s
 | .str l::r,.str l'::s=>l==l'&&eL r s
 | _,_=>false
def TK.isSlice:TK→Bool
 | .slice _=>true
 | _=>false
def r8(T:List TI)(nb t:Nat):Option hU:=
 match aU T t with
 | some {k:= .map kt vt,.. }=>
  match aU T kt,aU T vt with
  | some tk,some tv=>
   match pU tk,(if tv.k.isSlice then none else uH T tv)with
   | some (kl,ka),some aD=>some {val:= .mp nb,hZ:= .new (.map nb kl ka tv.k.agg tv.zero (.lit 0) aD)}
   | some (kl,ka),none=>some {val:= .mp nb,hZ:= .new (.sJ nb kl ka tv.k.agg tv.zero [])}
   | _,_=>none
  | _,_=>none
 | _=>none
def uJ(T:List TI)(hp:List Ck)(t:Nat)(x k:SV)(comma:Bool):Option hU:=
 match aU T t with
 | some {k:= .map kt vt,.. }=>
  match aU T kt,aU T vt with
  | some tk,some tv=>
   match pU tk with
   | some (kl,ka)=>
    match s7 ka k with
    | some kc=>
     match rowOf kc with
     | some (Mo,a)=>
      if Mo≠kl then none else
      match x with
      | .qY=>(iF tv.k.agg tv.zero).map fun v=>{val:=if comma then .mu [v,.bool (.lit false)]else v}
      | .mp b=>
       match xg hp b with
       | some (j,.map _ yC Ng KL AY has aD)=>
        if yC=kl∧Ng=ka∧KL=tv.k.agg∧eL AY tv.zero=true then
         match nD (QM kl.length a) aD with
         | some es=>(iF tv.k.agg es).map fun v=>{val:=if comma then .mu [v,.bool (Qu (gp has (QM kl.length a)))]else v,rd:=[j]}
         | none=>none
        else none
       | some (j,.sJ _ yC Ng KL AY es)=>
        if yC=kl∧Ng=ka∧KL=tv.k.agg∧eL AY tv.zero=true then
         match QM kl.length a with
         | .lit n=>(iF tv.k.agg (mT es AY n.toNat)).map fun v=>{val:=if comma then .mu [v,.bool (.lit (pI es n.toNat))]else v,rd:=[j]}
         | _=>none
        else none
       | _=>none
      | _=>none
     | none=>none
    | none=>none
   | none=>none
  | _,_=>none
 | _=>none
def Ch:SV→Bool
 | .agg _=>true
 | .b_ .. =>true
 | _=>false
def qK(T:List TI)(hp:List Ck)(t:Nat)(x k v:SV):Option hU:=
 match aU T t with
 | some {k:= .map kt vt,.. }=>
  match aU T kt,aU T vt with
  | some tk,some tv=>
   match pU tk with
   | some (kl,ka)=>
    match s7 ka k,ej v with
    | some kc,some vs=>
     match rowOf kc,x with
     | some (Mo,a),.mp b=>
      match xg hp b with
      | some (j,.map b' yC Ng KL zero has aD)=>
       if Mo=kl∧yC=kl∧Ng=ka∧KL=tv.k.agg∧jY vs=bT aD∧Ch v=tv.k.agg then
        match ld (QM kl.length a) vs aD with
        | some aT=>some {val:= .undef,rd:=[j],hZ:= .set j (.map b' kl ka KL zero (.sD has (QM kl.length a) (.lit 1)) aT)}
        | none=>none
       else none
      | some (j,.sJ b' yC Ng KL zero es)=>
       if Mo=kl∧yC=kl∧Ng=ka∧KL=tv.k.agg∧Ch v=tv.k.agg then
        match QM kl.length a with
        | .lit n=>some {val:= .undef,rd:=[j],hZ:= .set j (.sJ b' kl ka KL zero (Ah n.toNat vs es))}
        | _=>none
       else none
      | _=>none
     | _,_=>none
    | _,_=>none
   | none=>none
  | _,_=>none
 | _=>none
def bytesOf(T:List TI)(nv:Nat)(k:TK)(v:SV):Option hU:=
 match k with
 | .slice e=>
  match aU T e,pz v with
  | some te,some s=>if te.k= .int .u8∧te.size=1 then some {val:= .vv nv,vcs:=[xd (.lit 0) (kp s)].filter (fun b=>b != .lit true),hZ:= .DH (.bK false nv e 1 (kp s) [⟨.int .u8,1,Kl s⟩])}else none
  | _,_=>none
 | _=>none
def zP(T:List TI)(nv:Nat)(k:TK)(l:List UInt8):Option hU:=
 match k with
 | .slice e=>
  match aU T e with
  | some te=>if te.k= .int .u8∧te.size=1∧l.length≤1000 then some {val:= .vv nv,hZ:= .own (.bK true nv e 1 (.lit l.length) [⟨.int .u8,1,.o3 (l.map fun b=>(b.toNat:Int))⟩])}else none
  | none=>none
 | _=>none
def qW(a n:E):E:=
 match eR n with
 | some k=>match uG a k with
  | some l=> .o3 ((k:Int)::l)
  | none=>rS a n
 | none=>rS a n
def C_(hp:List Ck):SV→Option hU
 | .bU=>some {val:= .str []}
 | .sl b i 1 n _=>
  match findAt hp b,eR i,eR n with
  | some (j,.row _ _ cs),some i,some n=>
   match jl i n cs with
   | some xs=>
    match rowOf xs with
    | some (kl,a)=>if kl=List.replicate n .u8 then some {val:=mkStr (qW a (.lit n)),rd:=[j]}else none
    | none=>none
   | none=>none
  | some (j,.row _ _ [.b_ .u8 m a]),some 0,none=>some {val:=mkStr (qW a n),vcs:=[xd n (.lit m)].filter (fun b=>b != .lit true),rd:=[j]}
  | _,_,_=>none
 | .vv v=>
  match cG hp v with
  | some (j,.bK _ _ _ 1 n [⟨.int .u8,1,a⟩])=>some {val:=mkStr (qW a n),rd:=[j]}
  | _=>none
 | .kg v cs s=>
  match fB hp (.kg v cs s)with
  | some r=>match gV r.p.lo r.aD with
   | some [⟨.int .u8,1,a⟩]=>if r.s=1∧r.s=bT r.aD then some {val:=mkStr (qW a r.p.len),vcs:=r.vcs++dC (.lit 0) r.p.len,rd:=[r.j]}else none
   | _=>none
  | none=>none
 | _=>none
def nX(T:List TI)(hp:List Ck)(src:TypeId)(v:SV):Option hU:=
 match aU T src with
 | some ts=>
  match ts.k with
  | .slice e=>
   match aU T e with
   | some te=>if te.k= .int .u8 then C_ hp v else none
   | none=>none
  | _=>none
 | none=>none
def zQ(ti:TI)(op:BinOp)(y:Operand)(a:SV):Option hU:=
 match ti.k,y,a with
 | .iface,.const .nilIface,.sF=>
  match op with
  | .eql=>some {val:= .bool (.lit true)}
  | .neq=>some {val:= .bool (.lit false)}
  | _=>none
 | .iface,.const .nilIface,.MH .. =>
  match op with
  | .eql=>some {val:= .bool (.lit false)}
  | .neq=>some {val:= .bool (.lit true)}
  | _=>none
 | .iface,.const .nilIface,.GK c _=>
  match op with
  | .eql=>some {val:= .bool (iI c)}
  | .neq=>some {val:= .bool c}
  | _=>none
 | _,_,_=>none
def yn(look:Nat→Option SV):Option Operand→Option (Option E)
 | none=>some none
 | some o=>match iJ look o with
  | some (.int _ e)=>some (some e)
  | _=>none
def dt(T:List TI)(look:Nat→Option SV)(hp:List Ck)(nb nv:Nat)(o:Oper):Option hU:=
 let ev:=iJ look
 match o.op with
 | .move x | .assign x=>(ev x).map fun v=>{val:=v}
 | .pick c a b=>
  match ev c,ev a,ev b with
  | some (.bool c),some a,some b=>(C9 c a b).map fun v=>{val:=v}
  | _,_,_=>none
 | .alloc t=>(aU T t).bind fun ti=>match ti.k with
  | .IL _ e=>if eL ti.zero [.gx,.bU]then some {val:= .ptr nb 0,hZ:= .new (.IL nb t e (.lit 0) (.lit 0))}else none
  | _=>some {val:= .ptr nb 0,hZ:= .new (.row nb true ti.zero)}
 | .box _ x=>
  match ev x with
  | some v=>(ej v).map fun cs=>{val:= .ptr nb 0,hZ:= .new (.row nb true cs)}
  | none=>none
 | .build t parts=>
  match aU T t,partsOf look parts.toList with
  | some ti,some ps=>
   match ti.k with
   | .struct fs=>if pJ T fs then(j_ (gG T fs) ti.zero ps).map fun cs=>{val:= .agg cs}else none
   | .arr _ e=>
    match aU T e with
    | some te=>(j_ (jX te.size) ti.zero ps).map fun cs=>{val:= .agg cs}
    | none=>none
   | _=>none
  | _,_=>none
 | .buildSlice t len parts=>
  match aU T t,partsOf look parts.toList with
  | some ti,some ps=>
   match ti.k with
   | .slice e=>
    match aU T e with
    | some te=>if len=0 then(if ps.isEmpty then(gI T te).map fun z=>{val:= .vv nv,hZ:= .own (.bK true nv e te.size (.lit 0) z)}else none)else if te.size=0∨1000<len*te.size then none else(j_ (jX te.size) (List.replicate len te.zero).flatten ps).map fun cs=>{val:= .sl nb (.lit 0) te.size (.lit len) (.lit len),hZ:= .new (.row nb true cs)}
    | none=>none
   | _=>none
  | _,_=>none
 | .load t x=>
  match aU T t,ev x with
  | some ti,some a=>w7 hp ti.k.agg ti.size a
  | _,_=>none
 | .store t x y=>
  match aU T t,ev x,ev y with
  | some ti,some a,some v=>yd hp ti.size v a
  | _,_,_=>none
 | .nilCheck x=>
  match ev x with
  | some (.ptr b c)=>some {val:= .ptr b c}
  | some (.o5 b i s c)=>some {val:= .o5 b i s c}
  | some (.n8 e)=>some {val:= .n8 e,vcs:=[Qu e]}
  | some (.pv v i s c)=>match cG hp v with
   | some (j,.bK _ _ _ _ n _)=>some {val:= .pv v i s c,vcs:=gZ i n,rd:=[j]}
   | _=>none
  | some (.fn f cs)=>some {val:= .fn f cs}
  | _=>none
 | .binOp op t x y _=>
  match aU T t,ev x,ev y with
  | some ti,some a,some b=>match zQ ti op y a with
   | some r=>some r
   | none=>mS ti op a b
  | _,_,_=>none
 | .unOp op _ x=>
  match op,ev x with
  | .not,some (.bool b)=>some {val:= .bool (iI b)}
  | .xor,some (.int k a)=>some {val:= .int k (ux .aB k (.lit (if ua k then -1 else IntKind.hi k)) a)}
  | .neg,some (.int k a)=>some {val:= .int k (yf k (uw (.lit 0) a)).1,vcs:=(yf k (uw (.lit 0) a)).2}
  | _,_=>none
 | .convert src dst x=>
  match aU T src,aU T dst,ev x with
  | some _,some ti,some (.int _ a)=>
   match ti.k with
   | .int k=>some {val:= .int k (yg k a).1,vcs:=(yg k a).2}
   | _=>none
  | some ts,some ti,some (.str l)=>if ts.k= .str then zP T nv ti.k l else none
  | some ts,some ti,some (.kK s)=>if ts.k= .str then bytesOf T nv ti.k (.kK s)else none
  | some _,some ti,some (.sl b i s n m)=>
   match ti.k with
   | .slice e=>
    match aU T e,findAt hp b with
    | some te,some (j,.row b' true cs)=>if src=dst∧te.k= .int .u8 then some {val:= .sl b i s n m,rd:=[j],hZ:= .set j (.row b' false cs)}else none
    | _,_=>none
   | .str=>nX T hp src (.sl b i s n m)
   | _=>none
  | some _,some ti,some (.vv v)=>if ti.k= .str then nX T hp src (.vv v)else none
  | some _,some ti,some (.kg v cs s)=>if ti.k= .str then nX T hp src (.kg v cs s)else none
  | some _,some ti,some .bU=>if ti.k= .str then nX T hp src .bU else none
  | _,_,_=>none
 | .makeInterface t x=>
  match aU T t,ev x with
  | some ti,some (.int k e)=>if ti.k= .int k then some {val:= .MH t k e}else none
  | _,_=>none
 | .sliceToArrayPointer arr x=>
  match aU T arr,ev x with
  | some ta,some v=>
   match ta.k with
   | .arr n e=>
    match aU T e with
    | some _=>
     if n=0 then none else
     match v with
     | .sl b i s m _=>some {val:=DZ b i s 0,vcs:=dC (.lit n) m}
     | v=>
      match fB hp v with
      | some r=>some {val:= .pv r.v r.p.lo r.s 0,vcs:=r.vcs++dC (.lit n) r.p.len,rd:=[r.j]}
      | none=>none
    | none=>none
   | _=>none
  | _,_=>none
 | .fieldAddr s x f=>
  match aU T s,ev x with
  | some ts,some a=>
   match ts.k with
   | .struct fs=>
    match fs[f]? with
    | some (t,off)=>
     match aU T t with
     | some ti=>if ti.size=0 then none else
      match a with
      | .ptr b c=>some {val:= .ptr b (c+off)}
      | .o5 b i s c=>some {val:= .o5 b i s (c+off)}
      | .pv v i s c=>
       match cG hp v with
       | some (j,.bK _ _ _ _ n _)=>some {val:= .pv v i s (c+off),vcs:=gZ i n,rd:=[j]}
       | _=>none
      | _=>none
     | none=>none
    | none=>none
   | _=>none
  | _,_=>none
 | .field s x f=>
  match aU T s,ev x with
  | some ts,some (.agg cs)=>
   match ts.k with
   | .struct fs=>
    match fs[f]? with
    | some (t,off)=>
     match aU T t with
     | some ti=>
      match jl off ti.size cs with
      | some x=>(iF ti.k.agg x).map fun v=>{val:=v}
      | none=>none
     | none=>none
    | none=>none
   | _=>none
  | _,_=>none
 | .indexAddr t x y=>
  match aU T t,ev x,ev y with
  | some tt,some a,some (.int _ j)=>
   match tt.k with
   | .slice e=>
    match aU T e with
    | some te=>
     match a with
     | .sl b i s n _=>if te.size=s then some {val:=DZ b (du i j) s 0,vcs:=og i++gZ j n}else none
     | a=>
      match fB hp a with
      | some r=>if te.size=r.s then some {val:= .pv r.v (du r.p.lo j) r.s 0,vcs:=r.vcs++gZ j r.p.len,rd:=[r.j]}else none
      | none=>none
    | none=>none
   | .arr n e=>
    match aU T e with
    | some te=>
     match a with
     | .ptr b c=>some {val:=DZ b j te.size c,vcs:=gZ j (.lit n)}
     | _=>none
    | none=>none
   | _=>none
  | _,_,_=>none
 | .index t x y=>
  match aU T t,ev x,ev y with
  | some tt,some (.agg cs),some (.int _ j)=>
   match tt.k with
   | .arr n e=>
    match aU T e with
    | some te=>
     match eR j with
     | some l=>if l<n then(match jl (l*te.size) te.size cs with
      | some x=>(iF te.k.agg x).map fun v=>{val:=v}
      | none=>none)else none
     | none=>
      match cs with
      | [.b_ k m a]=>if m=n∧te.size=1∧te.k.agg=false then some {val:= .int k (gp a j),vcs:=gZ j (.lit n)}else none
      | _=>none
    | none=>none
   | _=>none
  | some tt,some v,some (.int _ j)=>if tt.k= .str then Iv v j else none
  | _,_,_=>none
 | .extract x i=>
  match ev x with
  | some (.mu vs)=>(vs[i]?).map fun v=>{val:=v}
  | _=>none
 | .makeFunc fn first jK=>
  match fn,first.toList with
  | .func f,[]=>(jm (jK.toList.map ev)).map fun cs=>{val:= .fn f cs}
  | _,_=>none
 | .call c=>
  match c.callee,c.args.toList,c.argTypes.toList with
  | .builtin .len,[x],[t]=>
   match aU T t,ev x with
   | some tt,some v=>Iw hp tt.k v
   | _,_=>none
  | .builtin .cap,[x],[t]=>
   match aU T t,ev x with
   | some tt,some .bU=>match tt.k with
    | .slice _=>some {val:= .int .i64 (.lit 0)}
    | _=>none
   | _,_=>none
  | .builtin .max,[x,y],_=>
   match ev x,ev y with
   | some (.int k a),some (.int _ b)=>some {val:= .int k (ux .imax k a b)}
   | _,_=>none
  | .builtin .min,[x,y],_=>
   match ev x,ev y with
   | some (.int k a),some (.int _ b)=>some {val:= .int k (ux .jJ k a b)}
   | _,_=>none
  | .builtin .append,[x,y],[ts,W3]=>
   match aU T ts,ev x,ev y with
   | some tt,some x,some y=>vf T hp nv tt ts W3 x y
   | _,_,_=>none
  | .builtin .clear,[x],[t]=>
   match aU T t,ev x with
   | some tt,some v=>yy T hp tt.k v
   | _,_=>none
  | .builtin .copy,[x,y],[ts,W3]=>
   match aU T ts,ev x,ev y with
   | some tt,some x,some y=>if ts=W3 then Cf T hp tt.k x y else none
   | _,_,_=>none
  | _,_,_=>none
 | .slice t x lo hi mx=>
  match aU T t,ev x,yn look lo,yn look hi,yn look mx with
  | some tt,some v,some l,some h,some m=>if tt.k= .str then(if m.isSome then none else zO v l h)else yr T hp tt.k v l h m
  | _,_,_,_,_=>none
 | .makeMap t none=>r8 T nb t
 | .lookup t x k comma=>
  match ev x,ev k with
  | some x,some k=>uJ T hp t x k comma
  | _,_=>none
 | .mapUpdate t x k v=>
  match ev x,ev k,ev v with
  | some x,some k,some v=>qK T hp t x k v
  | _,_,_=>none
 | .insert t x k v=>
  match ev x,ev k,ev v with
  | some x,some k,some v=>qK T hp t x k v
  | _,_,_=>none
 | .makeSlice t n c=>
  match aU T t,ev n,ev c with
  | some tt,some (.int _ n),some (.int _ c)=>Ce T nv tt.k n c
  | _,_,_=>none
 | _=>none
end Go.RX
