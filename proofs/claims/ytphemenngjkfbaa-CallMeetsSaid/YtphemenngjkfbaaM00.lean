/- Executor. -/
import Derived.OrdersIn
import Derived.WalkKit
open Array renaming getElem?_eq_some_iff → adS
open BitVec renaming ofInt → aev
open List renaming eq_nil_of_length_eq_zero → adZ, getElem?_eq_getElem → ad9, getElem?_eq_none → aeh, getElem?_eq_some_iff → adJ, getElem?_set_ne → ad_, pairwise_iff_getElem → aej, range → aec
open Nat renaming lt_of_lt_of_le → adT
open Option.some renaming injEq → adK
namespace Go.RX
inductive H2 where
 | add | sub | mul | quo | rem | eT | na | cr | Pk | shl | shr | Sc | imax
 deriving DecidableEq,Repr
inductive E where
 | lit (n:Int)
 | var (i:Nat)
 | aw (i:Nat)
 | iX (a i:E)
 | bin (o:H2) (k:IntKind) (a b:E)
 | wrap (k:IntKind) (a:E)
 | cV (a i v:E)
 | shift (a o:E)
 | BD (a o n b:E)
 | kc (n:Nat) (a:E)
 | s5 (b:Nat)
 | pk (l:List Int)
 | Pl (a i:E)
 | pF (a i s:E)
 | Q6 (s:E)
 deriving DecidableEq,Repr,Inhabited
inductive BE where
 | lit (b:Bool)
 | var (i:Nat)
 | eq (a b:E)
 | lt (a b:E)
 | le (a b:E)
 | nz (a:E)
 | Q7 (n:Nat) (a b:E)
 | not (a:BE)
 | and (a b:BE)
 | or (a b:BE)
 | ite (c t e:BE)
 | seq (a b:E)
 deriving DecidableEq,Repr,Inhabited
structure HP where
 wr:Bool
 p:World→(Nat→Prop)→Prop
 hJ: ∀w w' S,p w S→(∀k,S k→w'.heap[k]? =w.heap[k]?)→p w' S
structure V1 where
 v:Value
 one:v.oneCell'=true
def V1.nil:V1:=⟨.nilIface,rfl⟩
structure Env where
 iv:List Int:=[]
 av:List (Nat→Int):=[]
 bo:List Bool:=[]
 bv:List Nat:=[]
 vv:List V1:=[]
 va:List (Nat→V1):=[]
 pv:List HP:=[]
 lr:List Loop:=[]
def LU(o:H2)(k:IntKind)(x y:Int):Int:=
 let a:=aev k.bits x
 let b:=aev k.bits y
 match o with
 | .eT=>k.wrap (a &&& b).toNat
 | .na=>k.wrap (a|||b).toNat
 | .cr=>k.wrap (a^^^b).toNat
 | _=>k.wrap (a &&& ~~~b).toNat
def ax(o:H2)(k:IntKind)(x y:Int):Int:=
 match o with
 | .add=>x+y
 | .sub=>x - y
 | .mul=>x*y
 | .quo=>x.tdiv y
 | .rem=>x.tmod y
 | .Sc=>if y<x then y else x
 | .imax=>if x<y then y else x
 | .shl=>k.wrap (x*2^(min y.toNat k.bits))
 | .shr=>x.fdiv (2^(min y.toNat k.bits))
 | o=>LU o k x y
def Jm:Int→Nat
 | .ofNat n=>2*n
 | .negSucc n=>2*n+1
def uy(acc:Nat)(z:Int):Nat:=(2*(acc*2^((Jm z).log2+1)+Jm z)+1)*2^((Jm z).log2+1)
def bM(l:List Int):Nat:=l.foldl uy 0
def dW(f:Nat→Int):List UInt8:=(aec (f 0).toNat).map fun j=>UInt8.ofNat (f (j+1)).toNat
def Jn(l:List UInt8):Nat→Int
 | 0=>l.length
 | j+1=>((l.getD j 0).toNat:Nat)
theorem nF(l:List UInt8):dW (Jn l)=l:=by
 apply List.ext_getElem?;intro j;simp only [dW,Jn,Int.toNat_natCast,List.getElem?_map];by_cases h:j<l.length
 ·rw [List.getElem?_range h,ad9 h];simp [List.getD,ad9 h]
 ·rw [aeh (by simp;omega),aeh (by omega)];rfl
theorem cF(f:Nat→Int):(dW f).length=(f 0).toNat:=by simp [dW]
def two:Nat→Nat→Nat×Nat
 | 0,k=>(0,k)
 | d+1,k=>if k%2=1 then(0,k/2)else((two d (k/2)).1+1,(two d (k/2)).2)
def mF(i j:Nat):Nat:=2^i*(2*j+1)
theorem C6: ∀(i j d:Nat),i<d→two d (mF i j)=(i,j)
 | 0,j,d+1,_=>by unfold two mF;rw [if_pos (by omega)];congr 1;omega
 | i+1,j,d+1,h=>by
  have e:mF (i+1) j=2*mF i j:=by unfold mF;rw [Nat.pow_succ,Nat.mul_comm (2^i) 2,Nat.mul_assoc]
  unfold two;rw [if_neg (by rw [e];omega),e,Nat.mul_div_cancel_left _ (by decide),C6 i j d (by omega)]
def cY(k:Nat):Nat×Nat:=two k k
theorem mG(i j:Nat):cY (mF i j)=(i,j):=by
 apply C6;unfold mF;have h1:i<2^i:=Nat.lt_two_pow_self;have h2:2^i*1≤2^i*(2*j+1):=Nat.mul_le_mul_left _ (by omega);omega
def po(f:Nat→Int)(i:Nat):Nat→Int:=fun j=>f (mF i j)
def C7(f:Nat→Int)(i:Nat)(s:Nat→Int):Nat→Int:=fun k=>if(cY k).1=i then s (cY k).2 else f k
theorem iY(f:Nat→Int)(i j:Nat)(s:Nat→Int):po (C7 f i s) j=if j=i then s else po f j:=by
 funext k;simp only [po,C7,mG];split<;>rfl
def Jo(f:Nat→Int):Nat→Int:=fun j=>((UInt8.ofNat (f (j+1)).toNat).toNat:Nat)
def E.den(ρ:Env):E→Nat→Int
 | .lit n=>fun _=>n
 | .var i=>fun _=>ρ.iv.getD i 0
 | .aw i=>ρ.av.getD i (fun _=>0)
 | .iX a i=>fun _=>a.den ρ (i.den ρ 0).toNat
 | .bin o k a b=>fun _=>ax o k (a.den ρ 0) (b.den ρ 0)
 | .wrap k a=>fun _=>k.wrap (a.den ρ 0)
 | .cV a i v=>fun j=>if j=(i.den ρ 0).toNat then v.den ρ 0 else a.den ρ j
 | .shift a o=>fun j=>a.den ρ ((o.den ρ 0).toNat+j)
 | .BD a o n b=>fun j=>if(o.den ρ 0).toNat≤j∧j<(o.den ρ 0).toNat+(n.den ρ 0).toNat then b.den ρ (j - (o.den ρ 0).toNat)else a.den ρ j
 | .kc n a=>fun _=>(bM ((aec n).map (a.den ρ)):Nat)
 | .s5 b=>fun _=>(ρ.bv.getD b 0:Nat)+1
 | .pk l=>fun j=>l.getD j 0
 | .Pl a i=>po (a.den ρ) (i.den ρ 0).toNat
 | .pF a i s=>C7 (a.den ρ) (i.den ρ 0).toNat (s.den ρ)
 | .Q6 s=>Jo (s.den ρ)
abbrev E.i(ρ:Env)(e:E):Int:=e.den ρ 0
def BE.den(ρ:Env):BE→Bool
 | .lit b=>b
 | .var i=>ρ.bo.getD i false
 | .eq a b=>a.den ρ 0==b.den ρ 0
 | .lt a b=>decide (a.den ρ 0<b.den ρ 0)
 | .le a b=>decide (a.den ρ 0≤b.den ρ 0)
 | .nz a=> !(a.den ρ 0==0)
 | .Q7 n a b=>(aec n).all fun j=>a.den ρ j==b.den ρ j
 | .not a=> !a.den ρ
 | .and a b=>a.den ρ&&b.den ρ
 | .or a b=>a.den ρ||b.den ρ
 | .ite c t e=>if c.den ρ then t.den ρ else e.den ρ
 | .seq a b=>dW (a.den ρ)==dW (b.den ρ)
def BE.prop(ρ:Env):BE→Prop
 | .lit b=>b=true
 | .var i=>ρ.bo.getD i false=true
 | .eq a b=>a.den ρ 0=b.den ρ 0
 | .lt a b=>a.den ρ 0<b.den ρ 0
 | .le a b=>a.den ρ 0≤b.den ρ 0
 | .nz a=>a.den ρ 0≠0
 | .Q7 n a b=> ∀j,j<n→a.den ρ j=b.den ρ j
 | .not a=> ¬a.prop ρ
 | .and a b=>a.prop ρ∧b.prop ρ
 | .or a b=>a.prop ρ∨b.prop ρ
 | .ite c t e=>(c.prop ρ→t.prop ρ)∧(¬c.prop ρ→e.prop ρ)
 | .seq a b=>dW (a.den ρ)=dW (b.den ρ)
theorem BE.bY(ρ:Env)(b:BE):b.den ρ=true↔b.prop ρ:=by
 induction b with
 | lit b=>rfl
 | var i=>rfl
 | eq a b=>simp [BE.den,BE.prop]
 | lt a b=>simp [BE.den,BE.prop]
 | le a b=>simp [BE.den,BE.prop]
 | nz a=>simp [BE.den,BE.prop]
 | Q7 n a b=>simp [BE.den,BE.prop]
 | not a ih=>simp [BE.den,BE.prop,←ih]
 | and a b lF rU=>simp [BE.den,BE.prop,lF,rU]
 | or a b lF rU=>simp [BE.den,BE.prop,lF,rU]
 | ite c t e XP O2 O3=>
  simp only [BE.den,BE.prop,←XP,←O2,←O3];cases c.den ρ<;>simp
 | seq a b=>simp [BE.den,BE.prop]
structure Cut where
 lo:E
 hi:E
 mx:Option E
 deriving DecidableEq,Repr,Inhabited
inductive SV where
 | int (k:IntKind) (e:E)
 | bool (b:BE)
 | dT | bT | oh | s6 | hU | undef
 | ptr (b c:Nat)
 | pq (b:Nat) (i:E) (s c:Nat)
 | pv (v:Nat) (i:E) (s c:Nat)
 | sl (b:Nat) (i:E) (s:Nat) (n m:E)
 | vv (i:Nat)
 | str (l:List UInt8)
 | fn (f:Nat) (jB:List SV)
 | agg (cs:List SV)
 | aX (k:IntKind) (n:Nat) (a:E)
 | j7 (vs:List SV)
 | opt (c:BE) (v:SV)
 | C8 (a:Nat) (i:E)
 | Jp (l:Nat)
 | mp (b:Nat)
 | iC (v:Nat) (cs:List Cut) (s:Nat)
 | cO (e:E)
 | kE (s:E)
 | Ge (c:BE) (v:Nat)
 | LV (t:Nat) (k:IntKind) (e:E)
 | Lv (e:E)
 deriving Repr,Inhabited
def al(k:IntKind)(n:Nat)(f:Nat→Int):List Value:=(aec n).map fun j=> .int k (f j)
def eC(v:Value)(n:Nat):Value:=
 match v with
 | .slice (some a) _ _=> .pointer (some (a.add n))
 | _=> .pointer none
def bJ(s:Nat)(v:Value)(lo hi:Nat)(mx:Option Nat):Value:=
 match v with
 | .slice a _ c=> .slice (if mx.getD c=lo then a else a.map (·.add (lo*s))) (hi - lo) (mx.getD c - lo)
 | _=> .nilIface
theorem om(s:Nat)(v:Value)(lo hi:Nat)(mx:Option Nat):(bJ s v lo hi mx).oneCell'=true:=by
 unfold bJ;split<;>rfl
def c8(ρ:Env)(s:Nat)(v:Value):List Cut→Value
 | []=>v
 | c::r=>c8 ρ s (bJ s v (c.lo.den ρ 0).toNat (c.hi.den ρ 0).toNat (c.mx.map fun m=>(m.den ρ 0).toNat)) r
theorem nc(ρ:Env)(s:Nat): ∀(cs:List Cut) (v:Value),v.oneCell'=true→(c8 ρ s v cs).oneCell'=true
 | [],_,h=>h
 | _::r,_,_=>nc ρ s r _ (om ..)
theorem nG(ρ:Env)(s:Nat): ∀(a b:List Cut) (v:Value),c8 ρ s v (a++b)=c8 ρ s (c8 ρ s v a) b
 | [],_,_=>rfl
 | _::r,b,_=>nG ρ s r b _
def aC(z:Int):Value:=if z=0 then .pointer none else .pointer (some ⟨(z - 1).toNat,0,none⟩)
theorem fj(b:Nat):aC ((b:Nat)+1)= .pointer (some ⟨b,0,none⟩):=by
 unfold aC;rw [if_neg (by omega),show((b:Int)+1 - 1).toNat=b by omega]
theorem C9(z:Int):(aC z).oneCell'=true:=by unfold aC;split<;>rfl
def Ut(q:Nat):Value:=if(cY q).1=0 then .slice none (cY (cY q).2).1 (cY (cY q).2).2 else
 .slice (some ⟨(cY q).1 - 1,(cY (cY q).2).1,some (cY (cY (cY q).2).2).1⟩) (cY (cY (cY (cY q).2).2).2).1 (cY (cY (cY (cY q).2).2).2).2
def kQ(z:Int):Value:=if z=0 then .slice none 0 0 else if z<0 then Ut (-z).toNat else
 .slice (some ⟨(cY z.toNat).1,(cY (cY z.toNat).2).1,none⟩) (cY (cY (cY z.toNat).2).2).1 (cY (cY (cY z.toNat).2).2).2
def Sd(b o n c:Nat):Int:=(mF b (mF o (mF n c)):Nat)
theorem Jq(i j:Nat):0<mF i j:=Nat.mul_pos (Nat.two_pow_pos i) (by omega)
theorem C_:kQ 0= .slice none 0 0:=rfl
theorem Jr(b o n c:Nat):kQ (Sd b o n c)= .slice (some ⟨b,o,none⟩) n c:=by
 have:=Jq b (mF o (mF n c));unfold kQ Sd;rw [if_neg (by omega),if_neg (by omega),Int.toNat_natCast,mG,mG,mG]
theorem s7(z:Int):(kQ z).oneCell'=true:=by
 unfold kQ;split
 ·rfl
 ·split
  ·unfold Ut;split<;>rfl
  ·rfl
def s8(x:Value):Value:=
 match x with
 | .iface t v=> .iface t v
 | x=> .iface 0 x
mutual
def SV.val(ρ:Env):SV→Value
 | .int k e=> .int k (e.den ρ 0)
 | .bool b=> .bool (b.den ρ)
 | .dT=> .pointer none
 | .bT=> .slice none 0 0
 | .oh=> .nilFunc
 | .s6=> .nilIface
 | .hU=> .map none
 | .undef=>Go.undef
 | .ptr b c=> .pointer (some ⟨ρ.bv.getD b 0,c,none⟩)
 | .pq b i s c=> .pointer (some ⟨ρ.bv.getD b 0,(i.den ρ 0).toNat*s+c,none⟩)
 | .pv v i s c=>eC (ρ.vv.getD v V1.nil).v ((i.den ρ 0).toNat*s+c)
 | .sl b i s n m=> .slice (some ⟨ρ.bv.getD b 0,(i.den ρ 0).toNat*s,none⟩) (n.den ρ 0).toNat (m.den ρ 0).toNat
 | .vv i=>(ρ.vv.getD i V1.nil).v
 | .str l=> .string ⟨l.toArray⟩
 | .fn f jB=> .func (.func f) #[] (SV.bK ρ jB).toArray
 | .agg cs=> .agg (SV.ar ρ cs).toArray
 | .aX k n a=> .agg (al k n (a.den ρ)).toArray
 | .j7 vs=> .tuple (SV.bK ρ vs).toArray
 | .opt c v=>if c.den ρ then v.val ρ else Go.undef
 | .C8 a i=>((ρ.va.getD a fun _=>V1.nil) (i.den ρ 0).toNat).v
 | .Jp l=> .func (.yield (ρ.bv.getD l 0)) #[] #[]
 | .mp b=> .map (some (ρ.bv.getD b 0))
 | .iC v cs s=>c8 ρ s (ρ.vv.getD v V1.nil).v cs
 | .cO e=>aC (e.den ρ 0)
 | .kE s=> .string ⟨(dW (s.den ρ)).toArray⟩
 | .Ge c v=>if c.den ρ then s8 (ρ.vv.getD v V1.nil).v else .nilIface
 | .LV t k e=> .iface t (.int k (e.den ρ 0))
 | .Lv e=>kQ (e.den ρ 0)
def SV.bK(ρ:Env):List SV→List Value
 | []=>[]
 | v::r=>v.val ρ::SV.bK ρ r
def SV.ar(ρ:Env):List SV→List Value
 | []=>[]
 | v::r=>SV.cells ρ v++SV.ar ρ r
def SV.cells(ρ:Env):SV→List Value
 | .agg cs=>SV.ar ρ cs
 | .aX k n a=>al k n (a.den ρ)
 | .int k e=>[.int k (e.den ρ 0)]
 | .bool b=>[.bool (b.den ρ)]
 | .dT=>[.pointer none]
 | .bT=>[.slice none 0 0]
 | .oh=>[.nilFunc]
 | .s6=>[.nilIface]
 | .hU=>[.map none]
 | .undef=>[Go.undef]
 | .ptr b c=>[.pointer (some ⟨ρ.bv.getD b 0,c,none⟩)]
 | .pq b i s c=>[.pointer (some ⟨ρ.bv.getD b 0,(i.den ρ 0).toNat*s+c,none⟩)]
 | .pv v i s c=>[eC (ρ.vv.getD v V1.nil).v ((i.den ρ 0).toNat*s+c)]
 | .sl b i s n m=>[.slice (some ⟨ρ.bv.getD b 0,(i.den ρ 0).toNat*s,none⟩) (n.den ρ 0).toNat (m.den ρ 0).toNat]
 | .vv i=>[(ρ.vv.getD i V1.nil).v]
 | .str l=>[.string ⟨l.toArray⟩]
 | .fn f jB=>[.func (.func f) #[] (SV.bK ρ jB).toArray]
 | .j7 vs=>[.tuple (SV.bK ρ vs).toArray]
 | .opt c v=>[if c.den ρ then v.val ρ else Go.undef]
 | .C8 a i=>[((ρ.va.getD a fun _=>V1.nil) (i.den ρ 0).toNat).v]
 | .Jp l=>[.func (.yield (ρ.bv.getD l 0)) #[] #[]]
 | .mp b=>[.map (some (ρ.bv.getD b 0))]
 | .iC v cs s=>[c8 ρ s (ρ.vv.getD v V1.nil).v cs]
 | .cO e=>[aC (e.den ρ 0)]
 | .kE s=>[.string ⟨(dW (s.den ρ)).toArray⟩]
 | .Ge c v=>[if c.den ρ then s8 (ρ.vv.getD v V1.nil).v else .nilIface]
 | .LV t k e=>[.iface t (.int k (e.den ρ 0))]
 | .Lv e=>[kQ (e.den ρ 0)]
end
structure fQ (w w':World):Prop where
 os:w'.os=w.os
 tape:w'.tape=w.tape
 output:w'.output=w.output
 size:w.heap.size≤w'.heap.size
theorem fQ.refl(w:World):fQ w w:=⟨rfl,rfl,rfl,Nat.le_refl _⟩
theorem fQ.trans{a b c:World}(h:fQ a b)(k:fQ b c):fQ a c:=
 ⟨k.os.trans h.os,k.tape.trans h.tape,k.output.trans h.output,Nat.le_trans h.size k.size⟩
structure Sep (hs:List HP) (S:Nat→Nat→Prop) (w:World):Prop where
 at_: ∀i h,hs[i]? =some h→h.p w (S i)∧∀k,S i k→k<w.heap.size
 apart: ∀i j hi hj,i≠j→hs[i]? =some hi→hs[j]? =some hj→(hi.wr=true∨hj.wr=true)→∀k,S i k→¬S j k
def bd(hs:List HP)(w:World):Prop:= ∃S,Sep hs S w
def HP.emp:HP:=⟨false,fun _ S=> ∀k,¬S k,fun _ _ _ h _=>h⟩
theorem bd.pick{hs:List HP}{w:World}(h:bd hs w)(idx:List Nat)(gN:List HP)(fY:idx.Nodup)
  (he: ∀j:Nat,gN[j]? =(idx[j]?).bind (fun i=>hs[i]?)):bd gN w:=by
 obtain⟨S,hS⟩:=h;refine⟨fun j=>S (idx.getD j 0),⟨?_,?_⟩⟩
 ·intro j x hx;rw [he]at hx;cases hj:idx[j]? with
  | none=>simp [hj]at hx
  | some i=>
   simp only [hj,Option.bind_some]at hx;have:idx.getD j 0=i:=by simp [List.getD,hj]
   rw [this];exact hS.at_ i x hx
 ·intro i j hi hj fc W8 W9 hw k;rw [he]at W8 W9;cases nH:idx[i]? with
  | none=>simp [nH]at W8
  | some ii=>
   cases ky:idx[j]? with
   | none=>simp [ky]at W9
   | some jj=>
    simp only [nH,ky,Option.bind_some]at W8 W9;have e1:idx.getD i 0=ii:=by simp [List.getD,nH]
    have e2:idx.getD j 0=jj:=by simp [List.getD,ky]
    rw [e1,e2];refine hS.apart ii jj hi hj ?_ W8 W9 hw k;intro e;subst e;rw [adJ]at nH ky;obtain⟨a1,b1⟩:=nH;obtain⟨a2,b2⟩:=ky;have hpw:=aej.1 fY;rcases Nat.lt_or_gt_of_ne fc with h | h
    ·exact hpw i j a1 a2 h (b1.trans b2.symm)
    ·exact hpw j i a2 a1 h (b2.trans b1.symm)
theorem Sep.step{hs:List HP}{S:Nat→Nat→Prop}{w w':World}(h:Sep hs S w)(i:Nat)(h0 h':HP)(hi:hs[i]? =some h0)(hw:h0.wr=true)
  (S':Nat→Prop) (iZ:w.heap.size≤w'.heap.size) (s9: ∀k,k<w.heap.size→¬S i k→w'.heap[k]? =w.heap[k]?)
  (hp:h'.p w' S') (dL: ∀k,S' k→S i k∨(w.heap.size≤k∧k<w'.heap.size)):
  Sep (hs.set i h') (fun j=>if j=i then S' else S j) w':=by
 have cK:i<hs.length:=(adJ.1 hi).1;refine⟨?_,?_⟩
 ·intro j x hx;by_cases hj:j=i
  ·subst hj;rw [List.getElem?_set_self cK]at hx;cases hx;simp only [if_true];refine⟨hp,fun k hk=>?_⟩;rcases dL k hk with h1 | h1
   ·exact adT ((h.at_ _ _ hi).2 k h1) iZ
   ·exact h1.2
  ·rw [ad_ (Ne.symm hj)]at hx;simp only [hj,if_false];obtain⟨XQ,hb⟩:=h.at_ j x hx;refine⟨x.hJ w w' _ XQ fun k hk=>s9 k (hb k hk) ?_,fun k hk=>adT (hb k hk) iZ⟩;exact fun W_=>h.apart i j h0 x (Ne.symm hj) hi hx (.inl hw) k W_ hk
 ·intro a b ha hb fc O4 O5 wW k;by_cases Pm:a=i
  ·subst Pm;have XR:b≠a:=Ne.symm fc;rw [ad_ fc]at O5;simp only [if_true,XR,if_false];intro hk Lw;rcases dL k hk with h1 | h1
   ·exact h.apart a b h0 hb fc hi O5 (.inl hw) k h1 Lw
   ·exact absurd ((h.at_ b hb O5).2 k Lw) (by omega)
  ·rw [ad_ (Ne.symm Pm)]at O4;by_cases Se:b=i
   ·subst Se;simp only [if_true,Pm,if_false];intro hk Lw;rcases dL k Lw with h1 | h1
    ·exact h.apart a b ha h0 fc O4 hi (.inr hw) k hk h1
    ·exact absurd ((h.at_ a ha O4).2 k hk) (by omega)
   ·rw [ad_ (Ne.symm Se)]at O5;simp only [Pm,Se,if_false];exact h.apart a b ha hb fc O4 O5 wW k
theorem Sep.Sf{hs:List HP}{S:Nat→Nat→Prop}{w w':World}(h:Sep hs S w)(iZ:w.heap.size≤w'.heap.size)
  (s9: ∀k,k<w.heap.size→w'.heap[k]? =w.heap[k]?):Sep hs S w':=by
 refine⟨fun i x hx=>?_,h.apart⟩;obtain⟨hp,hb⟩:=h.at_ i x hx;exact⟨x.hJ w w' _ hp fun k hk=>s9 k (hb k hk),fun k hk=>adT (hb k hk) iZ⟩
theorem Sep.new{hs:List HP}{S:Nat→Nat→Prop}{w w':World}(h:Sep hs S w)(i:Nat)(h':HP)(hi:hs[i]? =some HP.emp)
  (S':Nat→Prop) (iZ:w.heap.size≤w'.heap.size) (s9: ∀k,k<w.heap.size→w'.heap[k]? =w.heap[k]?)
  (hp:h'.p w' S') (dL: ∀k,S' k→w.heap.size≤k∧k<w'.heap.size):
  Sep (hs.set i h') (fun j=>if j=i then S' else S j) w':=by
 have cK:i<hs.length:=(adJ.1 hi).1;refine⟨?_,?_⟩
 ·intro j x hx;by_cases hj:j=i
  ·subst hj;rw [List.getElem?_set_self cK]at hx;cases hx;simp only [if_true];exact⟨hp,fun k hk=>(dL k hk).2⟩
  ·rw [ad_ (Ne.symm hj)]at hx;simp only [hj,if_false];obtain⟨XQ,hb⟩:=h.at_ j x hx;exact⟨x.hJ w w' _ XQ fun k hk=>s9 k (hb k hk),fun k hk=>adT (hb k hk) iZ⟩
 ·intro a b ha hb fc O4 O5 wW k;by_cases Pm:a=i
  ·subst Pm;have XR:b≠a:=Ne.symm fc;rw [ad_ fc]at O5;simp only [if_true,XR,if_false];intro hk Lw;have:=(h.at_ b hb O5).2 k Lw;have:=dL k hk;omega
  ·rw [ad_ (Ne.symm Pm)]at O4;by_cases Se:b=i
   ·subst Se;simp only [if_true,Pm,if_false];intro hk Lw;have:=(h.at_ a ha O4).2 k hk;have:=dL k Lw;omega
   ·rw [ad_ (Ne.symm Se)]at O5;simp only [Pm,Se,if_false];exact h.apart a b ha hb fc O4 O5 wW k
def ak(b:Nat)(wr:Bool)(cs:List Value):HP where
 wr:=wr
 p w S:=(∀k,S k↔k=b)∧∃ty fz,w.heap[b]? =some (.cells cs.toArray ty fz)∧(wr=true→fz=(0,0))
 hJ w w' S h hk:=by
  obtain⟨h1,ty,fz,h2,h3⟩:=h;exact⟨h1,ty,fz,(hk b ((h1 b).2 rfl)).trans h2,h3⟩
def Q8(b:Nat)(l:List UInt8)(pos:Nat):HP where
 wr:=true
 p w S:=(∀k,S k↔k=b)∧w.heap[b]? =some (.stringIter ⟨l.toArray⟩ pos)
 hJ _ _ _ h hk:=⟨h.1,(hk b ((h.1 b).2 rfl)).trans h.2⟩
def Q9(b t e:Nat)(bs:List Value):HP where
 wr:=true
 p w S:= ∃pv v,w.heap[b]? =some (.cells #[pv,v] t (0,0))∧(pv= .pointer none∨pv= .pointer (some ⟨b,0,none⟩))∧w.ownsRow 0 e 1 v bs.length bs∧
  v.ownBlock≠some b∧∀k,S k↔k=b∨v.ownBlock=some k
 hJ w w' S h hk:=by
  obtain⟨pv,v,h1,h2,h3,h4,h5⟩:=h;refine⟨pv,v,(hk b ((h5 b).2 (.inl rfl))).trans h1,h2,⟨h3.1,?_⟩,h4,h5⟩;rcases h3.2 with hn | ⟨g,cap,cur,rfl,hB,hg,r⟩
  ·exact .inl hn
  ·exact .inr ⟨g,cap,cur,rfl,hB,(hk g ((h5 g).2 (.inr rfl))).trans hg,r⟩
def j8(l:Nat)(r:Loop):HP where
 wr:=true
 p w S:=(∀k,S k↔k=l)∧w.heap[l]? =some (.loop r)
 hJ w w' S h hk:=⟨h.1,by rw [hk l ((h.1 l).2 rfl)];exact h.2⟩
def xO(b:Nat):HP where
 wr:=true
 p w S:=(∀k,S k↔k=b)∧w.heap[b]? =some (.deferred (some []))
 hJ w w' S h hk:=⟨h.1,by rw [hk b ((h.1 b).2 rfl)];exact h.2⟩
def kF(l:List Nat):HP where
 wr:=true
 p w S:=(∀k,S k↔k∈l)∧l.Nodup∧∀b,b∈l→w.heap[b]? =some (.deferred (some []))
 hJ w w' S h hk:=⟨h.1,h.2.1,fun b hb=>by rw [hk b ((h.1 b).2 hb)];exact h.2.2 b hb⟩
def oo:List Nat→Nat
 | []=>0
 | x::r=>2^x*(2*oo r+1)
theorem LW: ∀{l m:List Nat},oo l=oo m→l=m:=by
 have pos: ∀(x:Nat) (r:List Nat),0<oo (x::r):=fun x r=>Nat.mul_pos (Nat.pow_pos (by decide)) (by omega)
 have key: ∀(x y a b:Nat),2^x*(2*a+1)=2^y*(2*b+1)→x=y∧a=b:=by
  intro x
  induction x with
  | zero=>
   intro y a b h;cases y with
   | zero=>simp at h;exact⟨rfl,by omega⟩
   | succ y=>rw [Nat.pow_succ,Nat.mul_right_comm]at h;omega
  | succ x ih=>
   intro y a b h;cases y with
   | zero=>rw [Nat.pow_succ,Nat.mul_right_comm]at h;omega
   | succ y=>
    rw [Nat.pow_succ,Nat.pow_succ,Nat.mul_right_comm,Nat.mul_right_comm _ 2]at h;obtain⟨h1,h2⟩:=ih y a b (by omega);exact⟨by omega,h2⟩
 intro l
 induction l with
 | nil=>
  intro m h;cases m with
  | nil=>rfl
  | cons y s=>have:=pos y s;rw [←h]at this;simp [oo]at this
 | cons x r ih=>
  intro m h;cases m with
  | nil=>have:=pos x r;rw [h]at this;simp [oo]at this
  | cons y s=>
   obtain⟨rfl,h2⟩:=key _ _ _ _ h;rw [ih h2]
open Classical in
noncomputable def pG(n:Nat):List Nat:=if h: ∃l,oo l=n then h.choose else []
theorem oq(l:List Nat):pG (oo l)=l:=by
 have h: ∃m,oo m=oo l:=⟨l,rfl⟩;unfold pG;rw [dif_pos h];exact LW h.choose_spec
def World.views(w:World)(v:Value)(n:Nat)(cs:List Value):Prop:=
 ∃a m c,v= .slice a m c∧m=n∧m≤c∧(a=none→n=0)∧
  ∀ad,a=some ad→(0<n→ad.spot=none)∧∀(j:Nat) u,cs[j]? =some u→w.cell? (ad.add j)=some u
def pH(n:Nat)(fz:Nat×Nat):Prop:=fz.2≤fz.1∨n≤fz.1
theorem pH.zero(n:Nat):pH n (0,0):= .inl (Nat.le_refl _)
theorem pH.off{n:Nat}{fz:Nat×Nat}(h:pH n fz){i:Nat}(hi:i<n):(decide (fz.1≤i)&&decide (i<fz.2))=false:=by
 unfold pH at h;simp;omega
def _root_.Go.World.hY(w:World)(_ s:Nat)(v:Value)(n:Nat)(cs:List Value):Prop:=
 cs.length=n*s∧((v= .slice none 0 0∧n=0)∨
  ∃g o cap cur,v= .slice (some ⟨g,o,none⟩) n cap∧(∃t' fz,w.heap[g]? =some (.cells cur t' fz)∧pH cur.size fz)∧n≤cap∧cap≤maxLen∧(0<cap→o+cap*s≤cur.size)∧(cur.toList.drop o).take (n*s)=cs)
theorem lG(w:World)(t s:Nat):w.hY t s (.slice none 0 0) 0 []:=⟨by simp,.inl ⟨rfl,rfl⟩⟩
theorem Js{w:World}{t s n:Nat}{v:Value}{cs:List Value}(h:w.ownsRow 0 t s v n cs):w.hY t s v n cs:=by
 obtain⟨hl,hr⟩:=h;refine⟨hl,?_⟩;rcases hr with hn | ⟨g,cap,cur,he,_,hg,Dv,Pn,m_,zZ⟩
 ·exact .inl hn
 ·exact .inr ⟨g,0,cap,cur,he,⟨t,_,hg,.zero _⟩,Dv,Pn,by omega,by simpa using zZ⟩
theorem gO{w:World}{t s n:Nat}{v:Value}{cs:List Value}(h:w.hY t s v n cs){k:Nat}(hk:v.ownBlock=some k):k<w.heap.size:=by
 rcases h.2 with⟨rfl,_⟩ | ⟨g,o,cap,cur,rfl,⟨_,_,hg,_⟩,_⟩
 ·simp [Value.ownBlock]at hk
 ·simp only [Value.ownBlock,adK]at hk;subst hk;exact(adS.1 hg).1
theorem eD(g o j:Nat):(⟨g,o,none⟩:Addr).add j=⟨g,o+j,none⟩:=by unfold Addr.add;split<;>simp_all
theorem i_{w:World}{t s n:Nat}{cs:List Value}{g o m c:Nat}(h:w.hY t s (.slice (some ⟨g,o,none⟩) m c) n cs): ∀j u,cs[j]? =some u→w.cell? ((⟨g,o,none⟩:Addr).add j)=some u:=by
 intro j u hu;rcases h.2 with⟨he,_⟩ | ⟨g',o',cap,cur,he,⟨t',fz,hgg,_⟩,_,_,_,LX⟩
 ·simp at he
 ·simp only [Value.slice.injEq,adK,Addr.mk.injEq,and_true]at he;obtain⟨⟨rfl,rfl⟩,_⟩:=he;rw [eD,cell_of_row w g (o+j) cur t' fz hgg];rw [←LX,List.getElem?_take]at hu;split at hu
  ·rw [List.getElem?_drop]at hu;simpa using hu
  ·cases hu
def aB(md:Bool)(t s:Nat)(v:Value)(n:Nat)(cs:List Value):HP where
 wr:=md
 p w S:=(if md then w.hY t s v n cs else cs.length=n*s∧World.views w v n cs)∧∀k,S k↔v.ownBlock=some k∧(md=true∨0<n)
 hJ w w' S h hk:=by
  refine⟨?_,h.2⟩;obtain⟨h0,h2⟩:=h;cases md with
  | true=>
   simp only [if_true]at h0 ⊢;obtain⟨hl,hr⟩:=h0;refine⟨hl,?_⟩;rcases hr with hn | ⟨g,o,cap,cur,rfl,⟨t',fz,hg,hz⟩,rest⟩
   ·exact .inl hn
   ·refine .inr ⟨g,o,cap,cur,rfl,⟨t',fz,?_,hz⟩,rest⟩;rw [hk g ((h2 g).2 ⟨by simp [Value.ownBlock],.inl rfl⟩)];exact hg
  | false=>
   simp only [Bool.false_eq_true,if_false]at h0 ⊢;obtain⟨hl,a,m,c,rfl,hm,Q_,kG,hc⟩:=h0;refine⟨hl,a,m,c,rfl,hm,Q_,kG,fun ad ry=>⟨(hc ad ry).1,fun j u hu=>?_⟩⟩;subst ry;have:=(hc ad rfl).2 j u hu;have hn:0<n:=by
    apply Nat.pos_of_ne_zero;rintro rfl;have m_:cs=[]:=adZ (by simpa using hl);rw [m_]at hu;simp at hu
   have hb:=hk ad.block ((h2 ad.block).2 ⟨by simp [Value.ownBlock],.inr hn⟩);have jH:(ad.add j).block=ad.block:=by unfold Addr.add;split<;>rfl
   simpa [World.cell?,jH,hb] using this
def ez(agg:Bool)(kl:List IntKind)(ks:List Int):Value:=
 if agg then .agg ((kl.zip ks).map fun x=> .int x.1 x.2).toArray else
 match kl,ks with
 | [k],[n]=> .int k n
 | _,_=> .nilIface
def xP(agg:Bool)(cs:List Value):Value:=
 if agg then .agg cs.toArray else cs.headD .nilIface
structure Uu (es:List MapEntry) (kl:List IntKind) (ka va:Bool) (has:Nat→Bool) (row:Nat→List Value):Prop where
 keys: ∀e∈es,∃ks:List Int,ks.length=kl.length∧e.key=ez ka kl ks∧has (bM ks)=true∧e.val=xP va (row (bM ks))
 once: ∀(i j:Nat) e e',es[i]? =some e→es[j]? =some e'→e.key=e'.key→i=j
 all: ∀ks:List Int,ks.length=kl.length→has (bM ks)=true→∃e∈es,e.key=ez ka kl ks
def b_(b:Nat)(kl:List IntKind)(ka va:Bool)(zero:List Value)(has:Nat→Bool)(row:Nat→List Value):HP where
 wr:=true
 p w S:=(∀k,S k↔k=b)∧(∃es clock,w.heap[b]? =some (.map es clock)∧Uu es.toList kl ka va has row)∧
  (∀ks:List Int,ks.length=kl.length→has (bM ks)=false→row (bM ks)=zero)
 hJ w w' S h hk:=by
  refine⟨h.1,?_,h.2.2⟩;obtain⟨es,clock,h1,h2⟩:=h.2.1;exact⟨es,clock,by rw [hk b ((h.1 b).2 rfl)];exact h1,h2⟩
def BF(n:Nat)(w0:World):HP where
 wr:=false
 p w S:=(∀k,S k↔k<n)∧∀k,k<n→w.heap[k]? =w0.heap[k]?
 hJ _ _ _ h hk:=⟨h.1,fun k hn=>(hk k ((h.1 k).2 hn)).trans (h.2 k hn)⟩
end Go.RX
