/- AES. -/
import Derived.Test.YtmgbbbmdbpbeeaaGreatM20
import Derived.Test.YtmgbbbmdbpbeeaaGreatM19
open Classical renaming not_not → ai4
open Go.IntKind renaming wrap → ae
open Go.Proofs.Tryz renaming prog → aiT
open Int renaming toNat → ag, toNat_natCast → aiX
open List renaming append → aiL, append_assoc → ajs, append_eq → ajp, getD_cons_succ → aiS, getD_cons_zero → ah, getElem?_append_left → aiR, getElem?_append_right → aiW, getElem?_eq_none → ajz, map_congr_left → ajq, mem_range → ai8, range → ajw
open Nat renaming eq_of_testBit_eq → ajx, mod_eq_of_lt → ajm, xor_comm → ajr
namespace Go.RX.Fe
open Go Go.RX Go.Proofs Go.Ae Go.RX.Sh
theorem cF{a b:Nat}(ha:a<256)(hb:b<256):ak .aB .u8 (a:Int) (b:Int)=((a^^^b:Nat):Int):=by
 show ae .u8 ((BitVec.ofInt 8 (a:Int)^^^BitVec.ofInt 8 (b:Int)).toNat:Int)=_;rw [wrap_u8,BitVec.toNat_xor,cm,cm,ajm ha,ajm hb,ajm (uY (n:=8) ha hb)]
theorem ab8: ∀a:Fin 256,ak .aB .u8 (ak .shl .u8 (a.val:Int) 1) (ae .u8 ((ak .shr .u8 (a.val:Int) 7)*27))=((y9 a.val:Nat):Int):=by decide+kernel
theorem CC{a:Nat}(h:a<256):ak .aB .u8 (ak .shl .u8 (a:Int) 1) (ae .u8 ((ak .shr .u8 (a:Int) 7)*27))=((y9 a:Nat):Int):=ab8 ⟨a,h⟩
def Ov(A0 A1:Nat→Int):Prop:=(∀j,j<255→A0 j=(up j:Nat))∧∀j,j<255→A1 (up j)=j
theorem Ht:ax aiT 113 [] [] fun x hs=>(∃A0 A1:Nat→Int,x= .tuple #[.agg (aiL (aj .u8 255 A0) ([])).toArray,.agg (aiL (aj .i64 256 A1) ([])).toArray]∧Ov A0 A1)∧hs=[]:=by
 refine ax.oG (C:=cx) (aV:={}) (ρ:={}) Ew pZ Ex Tryz.func113 (by constructor<;>rfl) (fun x=> ∃A0 A1:Nat→Int,x= .tuple #[.agg (aiL (aj .u8 255 A0) ([])).toArray,.agg (aiL (aj .i64 256 A1) ([])).toArray]∧Ov A0 A1)
  (args:=[]) Od (Rp aiT (fun x _=> ∃A0 A1:Nat→Int,x= .tuple #[.agg (aiL (aj .u8 255 A0) ([])).toArray,.agg (aiL (aj .i64 256 A1) ([])).toArray]∧Ov A0 A1) (fun _=>LC.none)) ?_
 unfold Jp;intro _ _;refine⟨fun e=> ∃n:Nat,n≤255∧e.i.getD 0 0=n∧e.i.getD 1 0=(up n:Nat)∧(∀j,j<n→(e.a.getD 0 fun _=>0) j=(up j:Nat))∧∀j,j<n→(e.a.getD 1 fun _=>0) (up j)=j,fun e=>((255:Int) - e.i.getD 0 0).toNat,⟨0,1,fun _=>0,fun _=>0,rfl,rfl,fun _ _=>rfl,fun _ _=>rfl,0,by omega,rfl,rfl,fun j hj=>by omega,fun j hj=>by omega⟩,?_⟩;rintro x0 x1 A0 A1 ⟨n,hn,h0,h1,hA,hB⟩;simp only [ah,aiS]at h0 h1 hA hB;subst h0 h1;refine⟨fun bX=>?_,fun bX=>?_⟩
 ·have Nh:n<255:=by omega
  have hr:=Oj ⟨n,by omega⟩;simp only at hr
  iterate 5 refine⟨by omega,fun _=>?_⟩
  have hs:=(Rs ⟨n,Nh⟩).1;simp only at hs;refine⟨n+1,(up (n+1):Nat),_,_,rfl,?_,fun _ _=>rfl,fun _ _=>rfl,⟨n+1,by omega,rfl,rfl,?_,?_⟩,?_⟩
  ·rw [CC hr.2.1,cF hr.2.1 (sg ⟨_,hr.2.1⟩),hs]
  all_goals (try simp only [ah,aiS,aiX])
  ·intro j hj;unfold au;split
   ·rename_i h;rw [h]
   ·exact hA j (by omega)
  ·intro j hj;have hl:=(Ol ⟨j,by omega⟩).1;have Z3:=(Ol ⟨n,Nh⟩).1;simp only at hl Z3;unfold au;split
   ·rename_i h;rw [h]at hl;omega
   ·rename_i h;refine hB j ?_;have:j≠n:=fun e=>h (by rw [e])
    omega
  ·omega
 ·obtain rfl:n=255:=by omega
  exact⟨A0,A1,rfl,hA,hB⟩
def ab9(y:Int):Int:=
 let r (z:Int):Int:=ak .bC .u8 (ak .shl .u8 z 1) (ak .shr .u8 z 7)
 ak .aB .u8 (ak .aB .u8 (ak .aB .u8 (ak .aB .u8 (ak .aB .u8 99 y) (r y)) (r (r y))) (r (r (r y)))) (r (r (r (r y))))
theorem U_: ∀j:Fin 256,ab9 (inv j.val:Nat)=(sb j.val:Nat):=by decide+kernel
theorem Bk:ax aiT 90 [] [] fun x hs=>(∃A:Nat→Int,x= .agg (aiL (aj .u8 256 A) ([])).toArray∧∀j,j<256→A j=(sb j:Nat))∧hs=[]:=by
 refine ax.oG (C:=cx) (aV:={}) (ρ:={}) Ew pZ Ex Tryz.func90 (by constructor<;>rfl) (fun x=> ∃A:Nat→Int,x= .agg (aiL (aj .u8 256 A) ([])).toArray∧∀j,j<256→A j=(sb j:Nat))
  (args:=[]) Rq (U6 aiT (fun x _=> ∃A:Nat→Int,x= .agg (aiL (aj .u8 256 A) ([])).toArray∧∀j,j<256→A j=(sb j:Nat)) (fun _=>LC.none)) ?_
 unfold Of;intro _;refine⟨_,Ht,?_⟩;rintro x hs ⟨⟨A0,A1,rfl,hP,hL⟩,rfl⟩;refine⟨A0,A1,rfl,rfl,?_⟩;intro _ _ _;refine⟨fun e=> ∃n:Nat,n≤256∧e.i.getD 0 0=n∧∀j,j<n→(e.a.getD 0 fun _=>0) j=(sb j:Nat),fun e=>((256:Int) - e.i.getD 0 0).toNat,⟨0,fun _=>0,rfl,fun _ _=>rfl,0,by omega,rfl,fun j hj=>by omega⟩,?_⟩;rintro x0 A2 ⟨n,hn,h0,hA⟩;simp only [ah]at h0 hA;subst h0;have put: ∀v:Int,n<256→v=(sb n:Nat)→∀j,j<n+1→au A2 n v j=(sb j:Nat):=by
  intro v _ hv j hj;unfold au;split
  ·rename_i h;rw [h,hv]
  ·exact hA j (by omega)
 refine⟨fun bX=>⟨fun od=>?_,fun od=>?_⟩,fun bX=>?_⟩
 ·have Nh:n<256:=by omega
  have hl:=Om ⟨n,Nh⟩;simp only at hl;have Dk:A1 n=(lg n:Nat):=by
   have h:=hL (lg n) hl.1;rcases hl.2.2.2 with hz | hu
   ·omega
   ·rw [hu]at h;exact h
  simp only [aiX];rw [Dk];have Ow:ak .rem .i64 (255 - ((lg n:Nat):Int)) 255=(((255 - lg n)%255:Nat):Int):=by
   simp only [ak];rw [Int.tmod_eq_emod_of_nonneg (by omega)];omega
  rw [Ow];have Rz:(255 - lg n)%255<255:=Nat.mod_lt _ (by decide)
  iterate 7 refine⟨by omega,fun _=>?_⟩
  simp only [aiX];rw [hP _ Rz];have hi:=U7 ⟨n,Nh⟩;simp only at hi;have mv:up ((255 - lg n)%255)=inv n:=by rcases hi with hi | hi;omega;exact hi
  rw [mv];refine⟨n+1,_,rfl,fun _ _=>rfl,⟨n+1,by omega,rfl,?_⟩,?_⟩
  ·simp only [ah];exact put _ Nh (U_ ⟨n,Nh⟩)
  ·simp only [ah];omega
 ·obtain rfl:n=0:=by omega
  iterate 3 refine⟨by omega,fun _=>?_⟩
  refine⟨1,_,rfl,fun _ _=>rfl,⟨1,by omega,rfl,?_⟩,?_⟩
  ·simp only [ah];exact put 99 (by omega) (by decide+kernel)
  ·simp only [ah];omega
 ·obtain rfl:n=256:=by omega
  exact⟨A2,rfl,hA⟩
open Go Go.RX Go.Proofs Go.Ae Go.RX.Sh
def cw(n:Nat)(K:Nat→Nat):Nat→Int:=fun j=>(W n K (j/4) (j%4):Nat)
def dp(b:Nat)(v:V1):HP:=al b true (aiL (aj .u8 256 fun j=>(sb j:Nat)) [v.v])
def ib(v:V1)(n:Nat)(K:Nat→Nat):HP:=aG true 177 4 v.v (4*(n+7)) (aW (4*(n+7)) [bd .u8 4 (cw n K)])
def Ox(v:V1)(n:Nat)(K:Nat→Nat):HP:=aG false 5 1 v.v (4*n) (aW (4*n) [bd .u8 1 fun j=>(K j:Nat)])
theorem y_{n:Nat}{f g:Nat→Int}(h: ∀j,j<4*n→f j=g j):aW n [bd .u8 4 f]=aW n [bd .u8 4 g]:=by
 unfold aW;have: ∀i∈ajw n,([bd .u8 4 f].flatMap fun c=>c i)=([bd .u8 4 g].flatMap fun c=>c i):=by
  intro i hi;rw [ai8]at hi;simp only [List.flatMap_cons,List.flatMap_nil,List.append_nil,bd];exact aP .u8 4 fun j hj=>h (i*4+j) (by omega)
 rw [List.flatMap_def,List.flatMap_def,ajq this]
theorem Jv(n:Nat)(K:Nat→Nat){A2:Nat→Int}{i:Nat}(hA: ∀j,j<4*i→A2 j=cw n K j)(d:Nat)(hd:0<d)(hdi:d≤i)(k:Nat)(hk:k<4):aI A2 (ag (((i:Int) - (d:Int))*4)) k=(W n K (i - d) k:Nat):=by
 unfold aI;rw [show ag (((i:Int) - (d:Int))*4)=4*(i - d) by omega,hA _ (by omega)];unfold cw;rw [show(4*(i - d)+k)/4=i - d by omega,show(4*(i - d)+k)%4=k by omega]
theorem Hu(n:Nat)(K:Nat→Nat){A2:Nat→Int}{i:Nat}(hA: ∀j,j<4*i→A2 j=cw n K j)(w:Nat→Int)(hw: ∀k,k<4→w k=(W n K i k:Nat)):
  ∀j,j<4*(i+1)→ay A2 (ag ((i:Int)*4)) 4 w j=cw n K j:=by
 intro j hj;unfold ay;rw [show ag ((i:Int)*4)=4*i by omega];split
 ·rename_i h;rw [hw (j - 4*i) (by omega)];unfold cw;rw [show j/4=i by omega,show j%4=j - 4*i by omega]
 ·exact hA j (by omega)
theorem four(w:Nat→Int)(a b c d:Int)(f:Nat→Nat)(h0:a=(f 0:Nat))(h1:b=(f 1:Nat))(h2:c=(f 2:Nat))(h3:d=(f 3:Nat)): ∀k,k<4→au (au (au (au w 0 a) 1 b) 2 c) 3 d k=(f k:Nat):=by
 intro k hk;have:k=0∨k=1∨k=2∨k=3:=by omega
 rcases this with rfl | rfl | rfl | rfl
 ·exact h0
 ·exact h1
 ·exact h2
 ·exact h3
theorem TN(n:Nat)(K:Nat→Nat){i:Nat}(h:i<n)(k:Nat):W n K i k=K (4*i+k):=by rw [W,dif_pos (.inl h)]
theorem p_(n:Nat)(K:Nat→Nat)(hn:0<n){i:Nat}(h: ¬i<n)(hz:i%n=0)(k:Nat):W n K i k=W n K (i - n) k^^^(sb (W n K (i - 1) ((k+1)%4))^^^(if k=0 then rc (i/n - 1)else 0)):=by
 conv=>lhs;rw [W]
 rw [dif_neg (by omega),if_pos hz]
theorem CD(K:Nat→Nat){i:Nat}(h: ¬i<8)(hz:i%8=4)(k:Nat):W 8 K i k=W 8 K (i - 8) k^^^sb (W 8 K (i - 1) k):=by
 conv=>lhs;rw [W]
 rw [dif_neg (by omega),if_neg (by omega),if_pos ⟨rfl,hz⟩]
theorem mM(n:Nat)(K:Nat→Nat)(hn:0<n){i:Nat}(h: ¬i<n)(hz:i%n≠0)(h4: ¬(n=8∧i%8=4))(k:Nat):W n K i k=W n K (i - n) k^^^W n K (i - 1) k:=by
 conv=>lhs;rw [W]
 rw [dif_neg (by omega),if_neg hz,if_neg h4]
theorem xn(i n:Nat):ak .rem .i64 (i:Int) (n:Int)=((i%n:Nat):Int):=by
 simp only [ak];rw [Int.tmod_eq_emod_of_nonneg (by omega)];omega
def Lk(v:V1)(n:Nat)(K:Nat→Nat)(x:Value)(hs:List HP):Prop:= ∃(b:Nat) (w:V1),x= .tuple #[.pointer (some ⟨b,0,none⟩),.int .i64 0]∧hs=[Ox v n K,dp b w,ib w n K]
theorem qa(v:V1)(K:Nat→Nat)(hK: ∀j,K j<256):ax aiT 60 [v.v] [Ox v 4 K] (Lk v 4 K):=by
 have h:=ax.kf (C:=cx) (aV:={a:=1,v:=1}) (ρ:={av:=[fun j=>(K j:Nat)],vv:=[v]}) Ew pZ Ex Tryz.func60 (by constructor<;>rfl)
  (ao:=fun x hs=>Lk v 4 K x (hs.take 3)) (args:=[.vv 0]) (hp:=[.bK false 0 5 1 (.lit 16) [⟨.int .u8,1,.aN 0⟩]]) Li
  (Og aiT (Lk v 4 K) (fun j=>(K j:Nat)) v (fun _=>LC.none)) ?_
 ·exact ax.post h fun x hs hq=>⟨hs.take 3,bL.sub (List.take_sublist 3 hs),hq⟩
 unfold EJ;refine⟨_,Bk,?_⟩;rintro x hs ⟨⟨A1,rfl,hS⟩,rfl⟩;refine⟨A1,rfl,rfl,?_⟩;intro b0;refine⟨fun e=> ∃i:Nat,i≤44∧e.i.getD 0 0=i∧e.i.getD 1 0=(rc ((i - 1)/4):Nat)∧∀j,j<4*i→(e.a.getD 0 fun _=>0) j=cw 4 K j,fun e=>((44:Int) - e.i.getD 0 0).toNat,⟨⟨.slice none 0 0,rfl⟩,0,1,fun _=>0,rfl,rfl,rfl,rfl,rfl,fun _ _=>rfl,0,by omega,rfl,by simp [rc],fun j hj=>by omega⟩,?_⟩;rintro w x0 x1 A2 ⟨i,hi,h0,h1,hA⟩;simp only [ah,aiS]at h0 h1 hA;subst h0 h1;have hW:=Rv 4 K hK;refine⟨fun bX=>⟨fun hk=>?_,fun hk=>?_⟩,fun bX=>?_⟩
 ·repeat (first | (intro _) | (refine⟨by omega,fun _=>?_⟩))
  rename_i v3 _ _;refine⟨v3,i+1,_,_,rfl,rfl,rfl,rfl,rfl,fun _ _=>rfl,⟨i+1,by omega,rfl,?_,?_⟩,?_⟩
  all_goals (try simp only [ah,aiS])
  ·rw [show(i - 1)/4=(i+1 - 1)/4 by omega]
  ·refine Hu 4 K hA _ fun k Ll=>?_
   rw [TN 4 K (by omega)];unfold aI;rw [show ag (4*(i:Int))=4*i by omega]
  ·omega
 ·have z: ∀k,k<4→aI A2 (ag (((i:Int) - 1)*4)) k=(W 4 K (i - 1) k:Nat):=fun k Ll=>Jv 4 K hA 1 (by omega) (by omega) k Ll
  have y: ∀k,k<4→aI A2 (ag (((i:Int) - 4)*4)) k=(W 4 K (i - 4) k:Nat):=fun k Ll=>Jv 4 K hA 4 (by omega) (by omega) k Ll
  have s: ∀k,A1 (W 4 K (i - 1) k)=(sb (W 4 K (i - 1) k):Nat):=fun k=>hS _ (hW _ _)
  have sl: ∀k,sb (W 4 K (i - 1) k)<256:=fun k=>Bj _ (hW _ _)
  have hrm:ak .rem .i64 (i:Int) 4=((i%4:Nat):Int):=xn i 4;have w0:=hW (i - 1) 0;have w1:=hW (i - 1) 1;have w2:=hW (i - 1) 2;have w3:=hW (i - 1) 3;have QG:=Js ((i - 1)/4);simp only [z 0 (by decide),z 1 (by decide),z 2 (by decide),z 3 (by decide),y 0 (by decide),y 1 (by decide),y 2 (by decide),y 3 (by decide),aiX,s]
  iterate 4 refine⟨by omega,fun _=>?_⟩
  intro _;rw [hrm];refine⟨fun hz=>?_,fun hz=>?_⟩
  ·repeat (first | (intro _) | (refine⟨by omega,fun _=>?_⟩))
   rename_i v3 _ _;have e1:(i - 1)/4=i/4 - 1:=by omega
   refine⟨v3,i+1,_,_,rfl,rfl,rfl,rfl,rfl,fun _ _=>rfl,⟨i+1,by omega,rfl,?_,?_⟩,?_⟩
   all_goals (try simp only [ah,aiS])
   ·rw [CC QG,show(i+1 - 1)/4=(i - 1)/4+1 by omega];rfl
   ·refine Hu 4 K hA _ (four _ _ _ _ _ _ ?_ ?_ ?_ ?_)
    ·rw [cF (sl 1) QG,cF (aS (sl 1) QG) (hW _ _),p_ 4 K (by omega) (i:=i) (by omega) (by omega) 0,if_pos rfl,←e1,ajr]
    ·rw [cF (sl 2) (hW _ _),p_ 4 K (by omega) (i:=i) (by omega) (by omega) 1,if_neg (by omega),Nat.xor_zero,ajr]
    ·rw [cF (sl 3) (hW _ _),p_ 4 K (by omega) (i:=i) (by omega) (by omega) 2,if_neg (by omega),Nat.xor_zero,ajr]
    ·rw [cF (sl 0) (hW _ _),p_ 4 K (by omega) (i:=i) (by omega) (by omega) 3,if_neg (by omega),Nat.xor_zero,ajr]
   ·omega
  ·repeat (first | (intro _) | (refine⟨by omega,fun _=>?_⟩))
   rename_i v3 _ _;refine⟨v3,i+1,_,_,rfl,rfl,rfl,rfl,rfl,fun _ _=>rfl,⟨i+1,by omega,rfl,?_,?_⟩,?_⟩
   all_goals (try simp only [ah,aiS])
   ·rw [show(i - 1)/4=(i+1 - 1)/4 by omega]
   ·refine Hu 4 K hA _ (four _ _ _ _ _ _ ?_ ?_ ?_ ?_)
    ·rw [cF (hW _ _) (hW _ _),mM 4 K (by omega) (i:=i) (by omega) (by omega) (by omega) 0,ajr]
    ·rw [cF (hW _ _) (hW _ _),mM 4 K (by omega) (i:=i) (by omega) (by omega) (by omega) 1,ajr]
    ·rw [cF (hW _ _) (hW _ _),mM 4 K (by omega) (i:=i) (by omega) (by omega) (by omega) 2,ajr]
    ·rw [cF (hW _ _) (hW _ _),mM 4 K (by omega) (i:=i) (by omega) (by omega) (by omega) 3,ajr]
   ·omega
 ·obtain rfl:i=44:=by omega
  refine⟨b0,w,rfl,?_⟩;have e1:aj .u8 256 A1=aj .u8 256 fun j=>(sb j:Nat):=aP .u8 256 hS
  have e2:aW (ag ((44:Nat):Int)) [bd .u8 4 A2]=aW (4*(4+7)) [bd .u8 4 (cw 4 K)]:=y_ (n:=44) hA;rw [e1,e2];rfl
theorem vW(v:V1)(K:Nat→Nat)(hK: ∀j,K j<256):ax aiT 60 [v.v] [Ox v 8 K] (Lk v 8 K):=by
 have h:=ax.kf (C:=cx) (aV:={a:=1,v:=1}) (ρ:={av:=[fun j=>(K j:Nat)],vv:=[v]}) Ew pZ Ex Tryz.func60 (by constructor<;>rfl)
  (ao:=fun x hs=>Lk v 8 K x (hs.take 3)) (args:=[.vv 0]) (hp:=[.bK false 0 5 1 (.lit 32) [⟨.int .u8,1,.aN 0⟩]]) Lj
  (Oh aiT (Lk v 8 K) (fun j=>(K j:Nat)) v (fun _=>LC.none)) ?_
 ·exact ax.post h fun x hs hq=>⟨hs.take 3,bL.sub (List.take_sublist 3 hs),hq⟩
 unfold EL;refine⟨_,Bk,?_⟩;rintro x hs ⟨⟨A1,rfl,hS⟩,rfl⟩;refine⟨A1,rfl,rfl,?_⟩;intro b0;refine⟨fun e=> ∃i:Nat,i≤60∧e.i.getD 0 0=i∧e.i.getD 1 0=(rc ((i - 1)/8):Nat)∧∀j,j<4*i→(e.a.getD 0 fun _=>0) j=cw 8 K j,fun e=>((60:Int) - e.i.getD 0 0).toNat,⟨⟨.slice none 0 0,rfl⟩,0,1,fun _=>0,rfl,rfl,rfl,rfl,rfl,fun _ _=>rfl,0,by omega,rfl,by simp [rc],fun j hj=>by omega⟩,?_⟩;rintro w x0 x1 A2 ⟨i,hi,h0,h1,hA⟩;simp only [ah,aiS]at h0 h1 hA;subst h0 h1;have hW:=Rv 8 K hK;refine⟨fun bX=>⟨fun hk=>?_,fun hk=>?_⟩,fun bX=>?_⟩
 ·repeat (first | (intro _) | (refine⟨by omega,fun _=>?_⟩))
  rename_i v3 _ _;refine⟨v3,i+1,_,_,rfl,rfl,rfl,rfl,rfl,fun _ _=>rfl,⟨i+1,by omega,rfl,?_,?_⟩,?_⟩
  all_goals (try simp only [ah,aiS])
  ·rw [show(i - 1)/8=(i+1 - 1)/8 by omega]
  ·refine Hu 8 K hA _ fun k Ll=>?_
   rw [TN 8 K (by omega)];unfold aI;rw [show ag (4*(i:Int))=4*i by omega]
  ·omega
 ·have z: ∀k,k<4→aI A2 (ag (((i:Int) - 1)*4)) k=(W 8 K (i - 1) k:Nat):=fun k Ll=>Jv 8 K hA 1 (by omega) (by omega) k Ll
  have y: ∀k,k<4→aI A2 (ag (((i:Int) - 8)*4)) k=(W 8 K (i - 8) k:Nat):=fun k Ll=>Jv 8 K hA 8 (by omega) (by omega) k Ll
  have s: ∀k,A1 (W 8 K (i - 1) k)=(sb (W 8 K (i - 1) k):Nat):=fun k=>hS _ (hW _ _)
  have sl: ∀k,sb (W 8 K (i - 1) k)<256:=fun k=>Bj _ (hW _ _)
  have hrm:ak .rem .i64 (i:Int) 8=((i%8:Nat):Int):=xn i 8;have w0:=hW (i - 1) 0;have w1:=hW (i - 1) 1;have w2:=hW (i - 1) 2;have w3:=hW (i - 1) 3;have QG:=Js ((i - 1)/8);simp only [z 0 (by decide),z 1 (by decide),z 2 (by decide),z 3 (by decide),y 0 (by decide),y 1 (by decide),y 2 (by decide),y 3 (by decide),aiX,s]
  iterate 4 refine⟨by omega,fun _=>?_⟩
  intro _;rw [hrm];refine⟨fun hz=>?_,fun hz=>?_⟩
  ·repeat (first | (intro _) | (refine⟨by omega,fun _=>?_⟩))
   rename_i v3 _ _;have e1:(i - 1)/8=i/8 - 1:=by omega
   refine⟨v3,i+1,_,_,rfl,rfl,rfl,rfl,rfl,fun _ _=>rfl,⟨i+1,by omega,rfl,?_,?_⟩,?_⟩
   all_goals (try simp only [ah,aiS])
   ·rw [CC QG,show(i+1 - 1)/8=(i - 1)/8+1 by omega];rfl
   ·refine Hu 8 K hA _ (four _ _ _ _ _ _ ?_ ?_ ?_ ?_)
    ·rw [cF (sl 1) QG,cF (aS (sl 1) QG) (hW _ _),p_ 8 K (by omega) (i:=i) (by omega) (by omega) 0,if_pos rfl,←e1,ajr]
    ·rw [cF (sl 2) (hW _ _),p_ 8 K (by omega) (i:=i) (by omega) (by omega) 1,if_neg (by omega),Nat.xor_zero,ajr]
    ·rw [cF (sl 3) (hW _ _),p_ 8 K (by omega) (i:=i) (by omega) (by omega) 2,if_neg (by omega),Nat.xor_zero,ajr]
    ·rw [cF (sl 0) (hW _ _),p_ 8 K (by omega) (i:=i) (by omega) (by omega) 3,if_neg (by omega),Nat.xor_zero,ajr]
   ·omega
  ·refine⟨fun hz4=>?_,fun hz4=>?_⟩
   ·repeat (first | (intro _) | (refine⟨by omega,fun _=>?_⟩))
    rename_i v3 _ _;refine⟨v3,i+1,_,_,rfl,rfl,rfl,rfl,rfl,fun _ _=>rfl,⟨i+1,by omega,rfl,?_,?_⟩,?_⟩
    all_goals (try simp only [ah,aiS])
    ·rw [show(i - 1)/8=(i+1 - 1)/8 by omega]
    ·refine Hu 8 K hA _ (four _ _ _ _ _ _ ?_ ?_ ?_ ?_)
     ·rw [cF (sl 0) (hW _ _),CD K (i:=i) (by omega) (by omega) 0,ajr]
     ·rw [cF (sl 1) (hW _ _),CD K (i:=i) (by omega) (by omega) 1,ajr]
     ·rw [cF (sl 2) (hW _ _),CD K (i:=i) (by omega) (by omega) 2,ajr]
     ·rw [cF (sl 3) (hW _ _),CD K (i:=i) (by omega) (by omega) 3,ajr]
    ·omega
   ·repeat (first | (intro _) | (refine⟨by omega,fun _=>?_⟩))
    rename_i v3 _ _;refine⟨v3,i+1,_,_,rfl,rfl,rfl,rfl,rfl,fun _ _=>rfl,⟨i+1,by omega,rfl,?_,?_⟩,?_⟩
    all_goals (try simp only [ah,aiS])
    ·rw [show(i - 1)/8=(i+1 - 1)/8 by omega]
    ·refine Hu 8 K hA _ (four _ _ _ _ _ _ ?_ ?_ ?_ ?_)
     ·rw [cF (hW _ _) (hW _ _),mM 8 K (by omega) (i:=i) (by omega) (by omega) (by omega) 0,ajr]
     ·rw [cF (hW _ _) (hW _ _),mM 8 K (by omega) (i:=i) (by omega) (by omega) (by omega) 1,ajr]
     ·rw [cF (hW _ _) (hW _ _),mM 8 K (by omega) (i:=i) (by omega) (by omega) (by omega) 2,ajr]
     ·rw [cF (hW _ _) (hW _ _),mM 8 K (by omega) (i:=i) (by omega) (by omega) (by omega) 3,ajr]
    ·omega
 ·obtain rfl:i=60:=by omega
  refine⟨b0,w,rfl,?_⟩;have e1:aj .u8 256 A1=aj .u8 256 fun j=>(sb j:Nat):=aP .u8 256 hS
  have e2:aW (ag ((60:Nat):Int)) [bd .u8 4 A2]=aW (4*(8+7)) [bd .u8 4 (cw 8 K)]:=y_ (n:=60) hA;rw [e1,e2];rfl
open Go Go.RX Go.Proofs Go.Ae Go.RX.Sh
theorem RA{a b:Nat}(ha:a<256)(hb:b<256):ak .aB .u8 (ak .shl .u8 (ak .aB .u8 (a:Int) (b:Int)) 1) (ae .u8 ((ak .shr .u8 (ak .aB .u8 (a:Int) (b:Int)) 7)*27))=((y9 a^^^y9 b:Nat):Int):=by
 rw [cF ha hb,CC (aS ha hb),Ru a b ha hb]
theorem Yx(a b c d p q:Nat):(a^^^(((a^^^b)^^^c)^^^d))^^^(p^^^q)=p^^^(b^^^q)^^^c^^^d:=by
 refine ajx fun i=>?_
 simp only [Nat.testBit_xor];generalize a.testBit i=a,b.testBit i=b,c.testBit i=c,d.testBit i=d,p.testBit i=p,q.testBit i=q
 revert a b c d p q
 decide
theorem RB{a b c d w:Nat}(ha:a<256)(hb:b<256)(hc:c<256)(hd:d<256)(hw:w<256):
  ak .aB .u8 (ak .aB .u8 (ak .aB .u8 (a:Int) (ak .aB .u8 (ak .aB .u8 (ak .aB .u8 (a:Int) (b:Int)) (c:Int)) (d:Int))) (ak .aB .u8 (ak .shl .u8 (ak .aB .u8 (a:Int) (b:Int)) 1) (ae .u8 ((ak .shr .u8 (ak .aB .u8 (a:Int) (b:Int)) 7)*27)))) (w:Int)=(((y9 a^^^(b^^^y9 b)^^^c^^^d)^^^w:Nat):Int):=by
 have hl:=fun(x:Nat) (h:x<256)=>sg ⟨x,h⟩
 rw [RA ha hb,cF ha hb,cF (aS ha hb) hc,cF (aS (aS ha hb) hc) hd,cF ha (aS (aS (aS ha hb) hc) hd),cF (aS ha (aS (aS (aS ha hb) hc) hd)) (aS (hl _ ha) (hl _ hb)),Yx];exact cF (aS (aS (aS (hl _ ha) (aS hb (hl _ hb))) hc) hd) hw
theorem Yz(a b c d p q:Nat):(b^^^(((a^^^b)^^^c)^^^d))^^^(p^^^q)=p^^^(c^^^q)^^^d^^^a:=by
 refine ajx fun i=>?_
 simp only [Nat.testBit_xor];generalize a.testBit i=a,b.testBit i=b,c.testBit i=c,d.testBit i=d,p.testBit i=p,q.testBit i=q
 revert a b c d p q
 decide
theorem RC{a b c d w:Nat}(ha:a<256)(hb:b<256)(hc:c<256)(hd:d<256)(hw:w<256):
  ak .aB .u8 (ak .aB .u8 (ak .aB .u8 (b:Int) (ak .aB .u8 (ak .aB .u8 (ak .aB .u8 (a:Int) (b:Int)) (c:Int)) (d:Int))) (ak .aB .u8 (ak .shl .u8 (ak .aB .u8 (b:Int) (c:Int)) 1) (ae .u8 ((ak .shr .u8 (ak .aB .u8 (b:Int) (c:Int)) 7)*27)))) (w:Int)=(((y9 b^^^(c^^^y9 c)^^^d^^^a)^^^w:Nat):Int):=by
 have hl:=fun(x:Nat) (h:x<256)=>sg ⟨x,h⟩
 rw [RA hb hc,cF ha hb,cF (aS ha hb) hc,cF (aS (aS ha hb) hc) hd,cF hb (aS (aS (aS ha hb) hc) hd),cF (aS hb (aS (aS (aS ha hb) hc) hd)) (aS (hl _ hb) (hl _ hc)),Yz];exact cF (aS (aS (aS (hl _ hb) (aS hc (hl _ hc))) hd) ha) hw
theorem YA(a b c d p q:Nat):(c^^^(((a^^^b)^^^c)^^^d))^^^(p^^^q)=p^^^(d^^^q)^^^a^^^b:=by
 refine ajx fun i=>?_
 simp only [Nat.testBit_xor];generalize a.testBit i=a,b.testBit i=b,c.testBit i=c,d.testBit i=d,p.testBit i=p,q.testBit i=q
 revert a b c d p q
 decide
theorem RD{a b c d w:Nat}(ha:a<256)(hb:b<256)(hc:c<256)(hd:d<256)(hw:w<256):
  ak .aB .u8 (ak .aB .u8 (ak .aB .u8 (c:Int) (ak .aB .u8 (ak .aB .u8 (ak .aB .u8 (a:Int) (b:Int)) (c:Int)) (d:Int))) (ak .aB .u8 (ak .shl .u8 (ak .aB .u8 (c:Int) (d:Int)) 1) (ae .u8 ((ak .shr .u8 (ak .aB .u8 (c:Int) (d:Int)) 7)*27)))) (w:Int)=(((y9 c^^^(d^^^y9 d)^^^a^^^b)^^^w:Nat):Int):=by
 have hl:=fun(x:Nat) (h:x<256)=>sg ⟨x,h⟩
 rw [RA hc hd,cF ha hb,cF (aS ha hb) hc,cF (aS (aS ha hb) hc) hd,cF hc (aS (aS (aS ha hb) hc) hd),cF (aS hc (aS (aS (aS ha hb) hc) hd)) (aS (hl _ hc) (hl _ hd)),YA];exact cF (aS (aS (aS (hl _ hc) (aS hd (hl _ hd))) ha) hb) hw
theorem YB(a b c d p q:Nat):(d^^^(((a^^^b)^^^c)^^^d))^^^(p^^^q)=p^^^(a^^^q)^^^b^^^c:=by
 refine ajx fun i=>?_
 simp only [Nat.testBit_xor];generalize a.testBit i=a,b.testBit i=b,c.testBit i=c,d.testBit i=d,p.testBit i=p,q.testBit i=q
 revert a b c d p q
 decide
theorem RE{a b c d w:Nat}(ha:a<256)(hb:b<256)(hc:c<256)(hd:d<256)(hw:w<256):
  ak .aB .u8 (ak .aB .u8 (ak .aB .u8 (d:Int) (ak .aB .u8 (ak .aB .u8 (ak .aB .u8 (a:Int) (b:Int)) (c:Int)) (d:Int))) (ak .aB .u8 (ak .shl .u8 (ak .aB .u8 (d:Int) (a:Int)) 1) (ae .u8 ((ak .shr .u8 (ak .aB .u8 (d:Int) (a:Int)) 7)*27)))) (w:Int)=(((y9 d^^^(a^^^y9 a)^^^b^^^c)^^^w:Nat):Int):=by
 have hl:=fun(x:Nat) (h:x<256)=>sg ⟨x,h⟩
 rw [RA hd ha,cF ha hb,cF (aS ha hb) hc,cF (aS (aS ha hb) hc) hd,cF hd (aS (aS (aS ha hb) hc) hd),cF (aS hd (aS (aS (aS ha hb) hc) hd)) (aS (hl _ hd) (hl _ ha)),YB];exact cF (aS (aS (aS (hl _ hd) (aS ha (hl _ ha))) hb) hc) hw
theorem CE(w:Nat→Int)(e0 e1 e2 e3 e4 e5 e6 e7 e8 e9 RF TO RG WR WS e15:Int)(f:Nat→Nat)(h0:e0=(f 0:Nat))(h1:e1=(f 1:Nat))(h2:e2=(f 2:Nat))(h3:e3=(f 3:Nat))(h4:e4=(f 4:Nat))(h5:e5=(f 5:Nat))(h6:e6=(f 6:Nat))(h7:e7=(f 7:Nat))(h8:e8=(f 8:Nat))(h9:e9=(f 9:Nat))(h10:RF=(f 10:Nat))(h11:TO=(f 11:Nat))(h12:RG=(f 12:Nat))(h13:WR=(f 13:Nat))(h14:WS=(f 14:Nat))(h15:e15=(f 15:Nat)): ∀k,k<16→au (au (au (au (au (au (au (au (au (au (au (au (au (au (au (au (w) 0 e0) 1 e1) 2 e2) 3 e3) 4 e4) 5 e5) 6 e6) 7 e7) 8 e8) 9 e9) 10 RF) 11 TO) 12 RG) 13 WR) 14 WS) 15 e15 k=(f k:Nat):=by
 intro k hk;have:k=0∨k=1∨k=2∨k=3∨k=4∨k=5∨k=6∨k=7∨k=8∨k=9∨k=10∨k=11∨k=12∨k=13∨k=14∨k=15:=by omega
 rcases this with rfl | rfl | rfl | rfl | rfl | rfl | rfl | rfl | rfl | rfl | rfl | rfl | rfl | rfl | rfl | rfl
 ·exact h0
 ·exact h1
 ·exact h2
 ·exact h3
 ·exact h4
 ·exact h5
 ·exact h6
 ·exact h7
 ·exact h8
 ·exact h9
 ·exact h10
 ·exact h11
 ·exact h12
 ·exact h13
 ·exact h14
 ·exact h15
theorem Jw(i n:Nat):ak .quo .i64 (i:Int) (n:Int)=((i/n:Nat):Int):=by
 simp only [ak];rw [Int.tdiv_eq_ediv_of_nonneg (by omega)];omega
theorem RH(n:Nat)(hn:n<100):ae .i64 (ak .quo .i64 (Int.ofNat (4*(n+7))) 4) - 1=((n+6:Nat):Int):=by
 have:=Jw (4*(n+7)) 4;rw [show ak .quo .i64 (Int.ofNat (4*(n+7))) 4=((n+7:Nat):Int) by rw [show(Int.ofNat (4*(n+7)):Int)=((4*(n+7):Nat):Int)from rfl,show(4:Int)=((4:Nat):Int)from rfl,Jw];omega];rw [uy .i64 _ (by show(-9223372036854775808:Int)≤_;omega) (by show _≤(9223372036854775807:Int);omega)];omega
theorem kV(n:Nat)(K:Nat→Nat)(r i k:Nat)(hk:k<4):aI (cw n K) (ag ((4*(r:Int)+(i:Int))*4)) k=(W n K (4*r+i) k:Nat):=by
 unfold aI cw;rw [show ag ((4*(r:Int)+(i:Int))*4)=4*(4*r+i) by omega,show(4*(4*r+i)+k)/4=4*r+i by omega,show(4*(4*r+i)+k)%4=k by omega]
theorem EO(n:Nat)(K:Nat→Nat)(r k:Nat)(hk:k<4):aI (cw n K) (ag ((4*(r:Int))*4)) k=(W n K (4*r) k:Nat):=by
 have:=kV n K r 0 k hk;rw [Int.natCast_zero,Int.add_zero]at this;exact this
theorem aca(A:Nat→Int)(f:Nat→Nat)(hA: ∀j,j<16→A j=(f j:Nat)): ∀j,j<16→ay (ay (ay (ay (fun _=>0) 0 4 A) 4 4 (aI A 4)) 8 4 (aI A 8)) 12 4 (aI A 12) j=(f j:Nat):=by
 intro j hj;simp only [ay,aI]
 repeat' split
 all_goals (try rw [hA _ (by omega)])
 all_goals (try (congr 2))
 all_goals omega
def EP(n:Nat)(K B:Nat→Nat)(b:Nat)(v:V1)(x:Value)(hs:List HP):Prop:=x= .agg (aj .u8 16 fun j=>(enc n K B j:Nat)).toArray∧hs=[dp b v,ib v n K]
theorem za(b:Nat)(v:V1)(n:Nat)(hn:0<n)(Lm:n<100)(K B:Nat→Nat)(hK: ∀j,K j<256)(hB: ∀j,B j<256):
  ax aiT 112 [.pointer (some ⟨b,0,none⟩),.agg (aj .u8 16 fun j=>(B j:Nat)).toArray] [dp b v,ib v n K] (EP n K B b v):=by
 have h:=ax.kf (C:=cx) (aV:={i:=1,a:=3,v:=1,b:=1}) (ρ:={iv:=[Int.ofNat (4*(n+7))],av:=[fun j=>(sb j:Nat),cw n K,fun j=>(B j:Nat)],bv:=[b],vv:=[v]}) Ew pZ Ex Tryz.func112 (by constructor<;>rfl)
  (ao:=fun x hs=>EP n K B b v x (hs.take 2)) (args:=[.ptr 0 0,.agg [.b_ .u8 16 (.aN 2)]]) (hp:=Jf) Oi
  (Rr aiT (EP n K B b v) (Int.ofNat (4*(n+7))) (fun j=>(sb j:Nat)) (cw n K) (fun j=>(B j:Nat)) v b (fun _=>LC.none)) ?_
 ·have hv:SV.bH {iv:=[Int.ofNat (4*(n+7))],av:=[fun j=>(sb j:Nat),cw n K,fun j=>(B j:Nat)],bv:=[b],vv:=[v]} [.ptr 0 0,.agg [.b_ .u8 16 (.aN 2)]]=[.pointer (some ⟨b,0,none⟩),.agg (aj .u8 16 fun j=>(B j:Nat)).toArray]:=by
   show [_,Value.agg (aiL (aj .u8 16 fun j=>(B j:Nat)) []).toArray]=_;rw [ajp,List.append_nil];rfl
  rw [hv]at h;exact ax.post h fun x hs hq=>⟨hs.take 2,bL.sub (List.take_sublist 2 hs),hq⟩
 unfold Jr;rw [RH n Lm];generalize hx:Int.ofNat (4*(n+7))=x0;have Tt:x0=4*((n:Int)+7):=by rw [←hx];show((4*(n+7):Nat):Int)=_;omega
 have hW:=Rv n K hK
 repeat (first | (intro _) | (refine⟨by omega,fun _=>?_⟩))
 have x1: ∀i j,i<256→j<256→ak .aB .u8 ((i:Nat):Int) ((j:Nat):Int)=((i^^^j:Nat):Int):=fun i j hi hj=>cF hi hj
 refine⟨fun e=> ∃r:Nat,r<n+7∧e.i.getD 0 0=((r+1:Nat):Int)∧∀j,j<16→(e.a.getD 0 fun _=>0) j=(rs (W n K) (n+6) B r j:Nat),fun e=>((n:Int)+8 - e.i.getD 0 0).toNat,⟨_,_,1,_,rfl,fun _ _=>rfl,rfl,rfl,rfl,rfl,0,by omega,rfl,?_⟩,?_⟩
 ·show∀j,j<16→_;refine CE _ _ _ _ _ _ _ _ _ _ _ _ _ _ _ _ _ _ ?_ ?_ ?_ ?_ ?_ ?_ ?_ ?_ ?_ ?_ ?_ ?_ ?_ ?_ ?_ ?_<;>exact cF (hB _) (hW _ _)
 rintro zT P0 x1 A3 ⟨r,hr,h0,hA⟩;simp only [ah]at h0 hA;subst h0;have hs:=On (W n K) (n+6) B hW hB r;generalize hS:rs (W n K) (n+6) B r=S at*

 have a0:A3 0=(S 0:Nat):=hA 0 (by decide);have l0:=hs 0;have a1:A3 1=(S 1:Nat):=hA 1 (by decide);have l1:=hs 1;have a2:A3 2=(S 2:Nat):=hA 2 (by decide);have l2:=hs 2;have a3:A3 3=(S 3:Nat):=hA 3 (by decide);have l3:=hs 3;have a4:A3 4=(S 4:Nat):=hA 4 (by decide);have l4:=hs 4;have a5:A3 5=(S 5:Nat):=hA 5 (by decide);have l5:=hs 5;have a6:A3 6=(S 6:Nat):=hA 6 (by decide);have l6:=hs 6;have a7:A3 7=(S 7:Nat):=hA 7 (by decide);have l7:=hs 7;have a8:A3 8=(S 8:Nat):=hA 8 (by decide);have l8:=hs 8;have a9:A3 9=(S 9:Nat):=hA 9 (by decide);have l9:=hs 9;have a10:A3 10=(S 10:Nat):=hA 10 (by decide);have l10:=hs 10;have a11:A3 11=(S 11:Nat):=hA 11 (by decide);have l11:=hs 11;have a12:A3 12=(S 12:Nat):=hA 12 (by decide);have l12:=hs 12;have a13:A3 13=(S 13:Nat):=hA 13 (by decide);have l13:=hs 13;have a14:A3 14=(S 14:Nat):=hA 14 (by decide);have l14:=hs 14;have a15:A3 15=(S 15:Nat):=hA 15 (by decide);have l15:=hs 15;have sl: ∀j,sb (S j)<256:=fun j=>Bj _ (hs j)
 simp only [a0,a1,a2,a3,a4,a5,a6,a7,a8,a9,a10,a11,a12,a13,a14,a15,aiX]
 iterate 3 refine⟨by omega,fun _=>?_⟩
 refine⟨fun bX=>?_,fun bX=>?_⟩
 ·repeat (first | (intro _) | (refine⟨by omega,fun _=>?_⟩))
  refine⟨fun hm=>?_,fun hm=>?_⟩
  ·repeat (first | (intro _) | (refine⟨by omega,fun _=>?_⟩))
   refine⟨_,_,_,_,rfl,fun _ _=>rfl,rfl,rfl,rfl,rfl,⟨r+1,by omega,rfl,?_⟩,?_⟩
   ·show∀j,j<16→_;have o7: ∀i,rs (W n K) (n+6) B (r+1) i=Yr (Yq S) i^^^W n K (4*(r+1)+i/4) (i%4):=fun i=>by rw [rs];simp only [];rw [if_pos (by omega),hS]
    refine CE _ _ _ _ _ _ _ _ _ _ _ _ _ _ _ _ _ _ ?_ ?_ ?_ ?_ ?_ ?_ ?_ ?_ ?_ ?_ ?_ ?_ ?_ ?_ ?_ ?_
    ·rw [o7];rw [EO n K (r+1) 0 (by decide)];exact RB (sl _) (sl _) (sl _) (sl _) (hW _ _)
    ·rw [o7];rw [EO n K (r+1) 1 (by decide)];exact RC (sl _) (sl _) (sl _) (sl _) (hW _ _)
    ·rw [o7];rw [EO n K (r+1) 2 (by decide)];exact RD (sl _) (sl _) (sl _) (sl _) (hW _ _)
    ·rw [o7];rw [EO n K (r+1) 3 (by decide)];exact RE (sl _) (sl _) (sl _) (sl _) (hW _ _)
    ·rw [o7];rw [show(1:Int)=((1:Nat):Int)from rfl,kV n K (r+1) 1 0 (by decide)];exact RB (sl _) (sl _) (sl _) (sl _) (hW _ _)
    ·rw [o7];rw [show(1:Int)=((1:Nat):Int)from rfl,kV n K (r+1) 1 1 (by decide)];exact RC (sl _) (sl _) (sl _) (sl _) (hW _ _)
    ·rw [o7];rw [show(1:Int)=((1:Nat):Int)from rfl,kV n K (r+1) 1 2 (by decide)];exact RD (sl _) (sl _) (sl _) (sl _) (hW _ _)
    ·rw [o7];rw [show(1:Int)=((1:Nat):Int)from rfl,kV n K (r+1) 1 3 (by decide)];exact RE (sl _) (sl _) (sl _) (sl _) (hW _ _)
    ·rw [o7];rw [show(2:Int)=((2:Nat):Int)from rfl,kV n K (r+1) 2 0 (by decide)];exact RB (sl _) (sl _) (sl _) (sl _) (hW _ _)
    ·rw [o7];rw [show(2:Int)=((2:Nat):Int)from rfl,kV n K (r+1) 2 1 (by decide)];exact RC (sl _) (sl _) (sl _) (sl _) (hW _ _)
    ·rw [o7];rw [show(2:Int)=((2:Nat):Int)from rfl,kV n K (r+1) 2 2 (by decide)];exact RD (sl _) (sl _) (sl _) (sl _) (hW _ _)
    ·rw [o7];rw [show(2:Int)=((2:Nat):Int)from rfl,kV n K (r+1) 2 3 (by decide)];exact RE (sl _) (sl _) (sl _) (sl _) (hW _ _)
    ·rw [o7];rw [show(3:Int)=((3:Nat):Int)from rfl,kV n K (r+1) 3 0 (by decide)];exact RB (sl _) (sl _) (sl _) (sl _) (hW _ _)
    ·rw [o7];rw [show(3:Int)=((3:Nat):Int)from rfl,kV n K (r+1) 3 1 (by decide)];exact RC (sl _) (sl _) (sl _) (sl _) (hW _ _)
    ·rw [o7];rw [show(3:Int)=((3:Nat):Int)from rfl,kV n K (r+1) 3 2 (by decide)];exact RD (sl _) (sl _) (sl _) (sl _) (hW _ _)
    ·rw [o7];rw [show(3:Int)=((3:Nat):Int)from rfl,kV n K (r+1) 3 3 (by decide)];exact RE (sl _) (sl _) (sl _) (sl _) (hW _ _)
   ·simp only [ah];omega
  ·repeat (first | (intro _) | (refine⟨by omega,fun _=>?_⟩))
   refine⟨_,_,_,_,rfl,fun _ _=>rfl,rfl,rfl,rfl,rfl,⟨r+1,by omega,rfl,?_⟩,?_⟩
   ·show∀j,j<16→_;have o7: ∀i,rs (W n K) (n+6) B (r+1) i=Yq S i^^^W n K (4*(r+1)+i/4) (i%4):=fun i=>by rw [rs];simp only [];rw [if_neg (by omega),hS]
    refine CE _ _ _ _ _ _ _ _ _ _ _ _ _ _ _ _ _ _ ?_ ?_ ?_ ?_ ?_ ?_ ?_ ?_ ?_ ?_ ?_ ?_ ?_ ?_ ?_ ?_
    ·rw [o7];rw [EO n K (r+1) 0 (by decide)];exact cF (sl _) (hW _ _)
    ·rw [o7];rw [EO n K (r+1) 1 (by decide)];exact cF (sl _) (hW _ _)
    ·rw [o7];rw [EO n K (r+1) 2 (by decide)];exact cF (sl _) (hW _ _)
    ·rw [o7];rw [EO n K (r+1) 3 (by decide)];exact cF (sl _) (hW _ _)
    ·rw [o7];rw [show(1:Int)=((1:Nat):Int)from rfl,kV n K (r+1) 1 0 (by decide)];exact cF (sl _) (hW _ _)
    ·rw [o7];rw [show(1:Int)=((1:Nat):Int)from rfl,kV n K (r+1) 1 1 (by decide)];exact cF (sl _) (hW _ _)
    ·rw [o7];rw [show(1:Int)=((1:Nat):Int)from rfl,kV n K (r+1) 1 2 (by decide)];exact cF (sl _) (hW _ _)
    ·rw [o7];rw [show(1:Int)=((1:Nat):Int)from rfl,kV n K (r+1) 1 3 (by decide)];exact cF (sl _) (hW _ _)
    ·rw [o7];rw [show(2:Int)=((2:Nat):Int)from rfl,kV n K (r+1) 2 0 (by decide)];exact cF (sl _) (hW _ _)
    ·rw [o7];rw [show(2:Int)=((2:Nat):Int)from rfl,kV n K (r+1) 2 1 (by decide)];exact cF (sl _) (hW _ _)
    ·rw [o7];rw [show(2:Int)=((2:Nat):Int)from rfl,kV n K (r+1) 2 2 (by decide)];exact cF (sl _) (hW _ _)
    ·rw [o7];rw [show(2:Int)=((2:Nat):Int)from rfl,kV n K (r+1) 2 3 (by decide)];exact cF (sl _) (hW _ _)
    ·rw [o7];rw [show(3:Int)=((3:Nat):Int)from rfl,kV n K (r+1) 3 0 (by decide)];exact cF (sl _) (hW _ _)
    ·rw [o7];rw [show(3:Int)=((3:Nat):Int)from rfl,kV n K (r+1) 3 1 (by decide)];exact cF (sl _) (hW _ _)
    ·rw [o7];rw [show(3:Int)=((3:Nat):Int)from rfl,kV n K (r+1) 3 2 (by decide)];exact cF (sl _) (hW _ _)
    ·rw [o7];rw [show(3:Int)=((3:Nat):Int)from rfl,kV n K (r+1) 3 3 (by decide)];exact cF (sl _) (hW _ _)
   ·simp only [ah];omega
 ·intro _ _ _ _;obtain rfl:r=n+6:=by omega
  refine⟨?_,?_⟩
  ·rw [aP .u8 16 (aca A3 S hA),ajp,List.append_nil,←hS];rfl
  ·rw [←hx];rfl
end Go.RX.Fe

namespace Go.Ae
def Lo(B:Nat→Nat):Nat:=B 12*16777216+B 13*65536+B 14*256+B 15
def nx(B:Nat→Nat)(j:Nat):Nat:=if j<12 then B j else(Lo B+1)%4294967296/256^(15 - j)%256
def RI(B:Nat→Nat):Nat→(Nat→Nat)
 | 0=>B
 | r+1=>nx (RI B r)
def eZ(n:Nat)(K B T:Nat→Nat)(j:Nat):Nat:=T j^^^enc n K (RI B (j/16)) (j%16)
theorem Bl(B:Nat→Nat)(hB: ∀j,B j<256)(j:Nat):nx B j<256:=by
 unfold nx;split
 ·exact hB j
 ·exact Nat.mod_lt _ (by decide)
theorem CF(B:Nat→Nat)(hB: ∀j,B j<256): ∀r j,RI B r j<256
 | 0,j=>hB j
 | r+1,j=>Bl _ (CF B hB r) j
theorem tF(n:Nat)(K B T:Nat→Nat)(hK: ∀j,K j<256)(hB: ∀j,B j<256)(hT: ∀j,T j<256)(j:Nat):eZ n K B T j<256:=
 aS (hT j) (CB n K _ hK (CF B hB _) _)
theorem Bm(n:Nat)(K B T:Nat→Nat)(j:Nat):eZ n K B (eZ n K B T) j=T j:=by
 unfold eZ;rw [Nat.xor_assoc,Nat.xor_self,Nat.xor_zero]
theorem vX(n:Nat)(K B:Nat→Nat){T T':Nat→Nat}{j:Nat}(h:T j=T' j):eZ n K B T j=eZ n K B T' j:=by
 unfold eZ;rw [h]
end Go.Ae

namespace Go.RX.Fg
open Go Go.RX Go.Proofs Go.Ae Go.RX.Sh Go.RX.Fe
theorem iM(k:IntKind)(n:Nat)(f:Nat→Int):aj k (n+1) f=aj k n f++[.int k (f n)]:=by
 apply List.ext_getElem?;intro j;rw [bf];by_cases h:j<n
 ·rw [if_pos (by omega),aiR (by rw [aF];exact h),bf,if_pos h]
 ·rw [aiW (by rw [aF];omega),aF];by_cases h2:j=n
  ·subst h2;rw [if_pos (by omega),Nat.sub_self];rfl
  ·rw [if_neg (by omega),ajz (by simp;omega)]
def bY(B:Nat→Nat):Value:= .agg (aj .u8 16 fun j=>(B j:Nat)).toArray
theorem RJ(b:Nat)(_:b<256):ae .u8 ((b:Int)+1)=(((b+1)%256:Nat):Int):=by
 rw [show((b:Int)+1)=((b+1:Nat):Int)from rfl,wrap_u8]
theorem YC(B:Nat→Nat):nx B 12=(Lo B+1)%4294967296/16777216%256∧nx B 13=(Lo B+1)%4294967296/65536%256∧nx B 14=(Lo B+1)%4294967296/256%256∧nx B 15=(Lo B+1)%4294967296/1%256:=by
 refine⟨?_,?_,?_,?_⟩<;>(unfold nx;rw [if_neg (by decide)])<;>rw [show(256:Nat)^_=_ from by decide]
theorem carry(a b c d n:Nat)(ha:a<256)(hb:b<256)(hc:c<256)(hd:d<256)(hn:n=a*16777216+b*65536+c*256+d):
  (d+1)%256=(n+1)%4294967296/1%256∧
  (¬(d+1)%256=0→c=(n+1)%4294967296/256%256)∧((d+1)%256=0→(c+1)%256=(n+1)%4294967296/256%256)∧
  (¬((d+1)%256=0∧(c+1)%256=0)→b=(n+1)%4294967296/65536%256)∧((d+1)%256=0→(c+1)%256=0→(b+1)%256=(n+1)%4294967296/65536%256)∧
  (¬((d+1)%256=0∧(c+1)%256=0∧(b+1)%256=0)→a=(n+1)%4294967296/16777216%256)∧((d+1)%256=0→(c+1)%256=0→(b+1)%256=0→(a+1)%256=(n+1)%4294967296/16777216%256):=by
 subst hn;refine⟨by omega,by omega,by omega,by omega,by omega,by omega,by omega⟩
theorem fK(B:Nat→Nat)(hB: ∀j,B j<256):ax aiT 87 [bY B] [] fun x hs=>x=bY (nx B)∧hs=[]:=by
 have h:=ax.oG (C:=cx) (aV:={a:=1}) (ρ:={av:=[fun j=>(B j:Nat)]}) Ew pZ Ex Tryz.func87 (by constructor<;>rfl) (fun x=>x=bY (nx B))
  (args:=[.agg [.b_ .u8 16 (.aN 0)]]) Ob (Rn aiT (fun x _=>x=bY (nx B)) (fun j=>(B j:Nat)) (fun _=>LC.none)) ?_
 ·have hv:SV.bH {av:=[fun j=>(B j:Nat)]} [.agg [.b_ .u8 16 (.aN 0)]]=[bY B]:=by
   show [Value.agg (aiL (aj .u8 16 fun j=>(B j:Nat)) []).toArray]=_;rw [ajp,List.append_nil];rfl
  rw [hv]at h;exact h
 unfold tE;have h12:=hB 12;have h13:=hB 13;have h14:=hB 14;have h15:=hB 15;obtain⟨n12,n13,n14,n15⟩:=YC B;have lo:Lo B=B 12*16777216+B 13*65536+B 14*256+B 15:=rfl;have nlo: ∀j,j<12→nx B j=B j:=fun j hj=>by unfold nx;rw [if_pos hj]
 have acb: ∀j,j<12→((B j:Nat):Int)=(nx B j:Nat):=fun j hj=>by rw [nlo j hj]
 have RG:aj .u8 12 (fun j=>((B j:Nat):Int))=aj .u8 12 fun j=>(nx B j:Nat):=aP .u8 12 acb
 intro _ _;rw [RJ _ h15,RJ _ h14,RJ _ h13,RJ _ h12];have fin: ∀a b c d:Nat,a=nx B 12→b=nx B 13→c=nx B 14→d=nx B 15→Value.agg (aiL (aj .u8 12 fun j=>((B j:Nat):Int)) [.int .u8 (a:Int),.int .u8 (b:Int),.int .u8 (c:Int),.int .u8 (d:Int)]).toArray=bY (nx B):=by
  intro a b c d ha hb hc hd;subst ha hb hc hd;unfold bY;rw [RG,iM .u8 15,iM .u8 14,iM .u8 13,iM .u8 12];simp
 have s13:aj .u8 13 (fun j=>((B j:Nat):Int))=aj .u8 12 (fun j=>((B j:Nat):Int))++[.int .u8 (B 12:Nat)]:=iM .u8 12 _;have s14:aj .u8 14 (fun j=>((B j:Nat):Int))=aj .u8 12 (fun j=>((B j:Nat):Int))++[.int .u8 (B 12:Nat),.int .u8 (B 13:Nat)]:=by rw [iM .u8 13,s13];simp
 have s15:aj .u8 15 (fun j=>((B j:Nat):Int))=aj .u8 12 (fun j=>((B j:Nat):Int))++[.int .u8 (B 12:Nat),.int .u8 (B 13:Nat),.int .u8 (B 14:Nat)]:=by rw [iM .u8 14,s14];simp
 obtain⟨WT,k14,YD,k13,c13,WU,c12⟩:=carry _ _ _ _ _ h12 h13 h14 h15 lo;rw [←n12]at WU c12;rw [←n13]at k13 c13;rw [←n14]at k14 YD;rw [←n15]at WT;have z: ∀m:Nat,((m:Nat):Int)=0→m=0:=fun m h=>Int.ofNat.inj h
 have zn: ∀m:Nat,¬¬((m:Nat):Int)=0→m=0:=fun m h=>z m (ai4.1 h)
 have nz: ∀m:Nat,¬((m:Nat):Int)=0→¬m=0:=fun m h e=>h (by rw [e];rfl)
 refine⟨fun h0=>?_,fun h0=>⟨fun h1=>?_,fun h1=>⟨fun h2=>?_,fun h2=>⟨fun h3=>?_,fun h3=>?_⟩⟩⟩⟩
 ·rw [s15,ajp,ajs];exact fin _ _ _ _ (WU fun h=>nz _ h0 h.1) (k13 fun h=>nz _ h0 h.1) (k14 (nz _ h0)) WT
 ·rw [s14,ajp,ajs];exact fin _ _ _ _ (WU fun h=>nz _ h1 h.2.1) (k13 fun h=>nz _ h1 h.2) (YD (zn _ h0)) WT
 ·rw [s13,ajp,ajs];exact fin _ _ _ _ (WU fun h=>nz _ h2 h.2.2) (c13 (zn _ h0) (zn _ h1)) (YD (zn _ h0)) WT
 ·exact fin _ _ _ _ (c12 (zn _ h0) (zn _ h1) (zn _ h2)) (c13 (zn _ h0) (zn _ h1)) (YD (zn _ h0)) WT
 ·exact fin _ _ _ _ (c12 (zn _ h0) (zn _ h1) (zn _ h2)) (c13 (zn _ h0) (zn _ h1)) (YD (zn _ h0)) WT
open Go Go.RX Go.Proofs Go.Ae Go.RX.Sh Go.RX.Fe
def aq(md:Bool)(v:V1)(n:Nat)(T:Nat→Nat):HP:=aG md 5 1 v.v n (aW n [bd .u8 1 fun j=>(T j:Nat)])
theorem bJ{n:Nat}{f g:Nat→Int}(h: ∀j,j<n→f j=g j):aW n [bd .u8 1 f]=aW n [bd .u8 1 g]:=by
 unfold aW;have: ∀i∈ajw n,([bd .u8 1 f].flatMap fun c=>c i)=([bd .u8 1 g].flatMap fun c=>c i):=by
  intro i hi;rw [ai8]at hi;simp only [List.flatMap_cons,List.flatMap_nil,List.append_nil,bd];exact aP .u8 1 fun j hj=>h (i*1+j) (by omega)
 rw [List.flatMap_def,List.flatMap_def,ajq this]
theorem dZ{A:Nat→Int}{B:Nat→Nat}(h: ∀j,j<16→A j=(B j:Nat)):Value.agg (aiL (aj .u8 16 A) []).toArray=bY B:=by
 unfold bY;rw [ajp,List.append_nil,aP .u8 16 h]
def YE(b lb:Nat)(v tv:V1)(n:Nat)(K B T:Nat→Nat)(len:Nat)(x:Value)(hs:List HP):Prop:=
 ∃o:V1,x= .tuple #[o.v,.int .i64 0]∧hs=[dp b v,ib v n K,al lb true [tv.v],aq false tv len T,aq true o len (eZ n K B T)]
theorem Hv(b lb:Nat)(v tv:V1)(n:Nat)(hn:0<n)(Lm:n<100)(K B T:Nat→Nat)(hK: ∀j,K j<256)(hB: ∀j,B j<256)(hT: ∀j,T j<256)(len:Nat)(hl:len≤140737488355328):
  ax aiT 62 [.pointer (some ⟨b,0,none⟩),bY B,.slice (some ⟨lb,0,none⟩) 1 1] [dp b v,ib v n K,al lb true [tv.v],aq false tv len T] (YE b lb v tv n K B T len):=by
 have h:=ax.kf (C:=cx) (aV:={i:=2,a:=4,v:=2,b:=2}) (ρ:={iv:=[Int.ofNat (4*(n+7)),Int.ofNat len],av:=[fun j=>(sb j:Nat),cw n K,fun j=>(B j:Nat),fun j=>(T j:Nat)],bv:=[b,lb],vv:=[v,tv]}) Ew pZ Ex Tryz.func62 (by constructor<;>rfl)
  (ao:=fun x hs=> ∃(o:V1) (r1 r2:HP),x= .tuple #[o.v,.int .i64 0]∧hs.take 7=[dp b v,ib v n K,al lb true [tv.v],aq false tv len T,r1,r2,aq true o len (eZ n K B T)])
  (args:=[.ptr 0 0,.agg [.b_ .u8 16 (.aN 2)],.sl 1 (.lit 0) 1 (.lit 1) (.lit 1)]) (hp:=UW) Oc
  (Ro aiT (fun x hs=> ∃(o:V1) (r1 r2:HP),x= .tuple #[o.v,.int .i64 0]∧hs=[dp b v,ib v n K,al lb true [tv.v],aq false tv len T,r1,r2,aq true o len (eZ n K B T)]) (Int.ofNat (4*(n+7))) (Int.ofNat len) (fun j=>(sb j:Nat)) (cw n K) (fun j=>(B j:Nat)) (fun j=>(T j:Nat)) v tv b lb (fun _=>LC.none)) ?_
 ·have hv:SV.bH {iv:=[Int.ofNat (4*(n+7)),Int.ofNat len],av:=[fun j=>(sb j:Nat),cw n K,fun j=>(B j:Nat),fun j=>(T j:Nat)],bv:=[b,lb],vv:=[v,tv]} [.ptr 0 0,.agg [.b_ .u8 16 (.aN 2)],.sl 1 (.lit 0) 1 (.lit 1) (.lit 1)]=[.pointer (some ⟨b,0,none⟩),bY B,.slice (some ⟨lb,0,none⟩) 1 1]:=by
   show [_,Value.agg (aiL (aj .u8 16 fun j=>(B j:Nat)) []).toArray,_]=_;rw [ajp,List.append_nil];rfl
  rw [hv]at h;refine ax.post h fun x hs hq=>?_
  obtain⟨o,r1,r2,hx,hh⟩:=hq;refine⟨[dp b v,ib v n K,al lb true [tv.v],aq false tv len T,aq true o len (eZ n K B T)],?_,o,hx,rfl⟩;refine bL.trans (bL.sub (List.take_sublist 7 hs)) ?_;rw [hh];exact bL.sub (by repeat (first | exact List.Sublist.slnil | apply List.Sublist.cons_cons | apply List.Sublist.cons))
 unfold Jn;generalize hx:Int.ofNat (4*(n+7))=x0;have hlen:Int.ofNat len=(len:Int):=rfl;rw [hlen];intro b2 b3
 iterate 3 refine⟨by omega,fun _=>?_⟩
 intro v2 _ _ _ _ _ _;refine⟨fun e=> ∃r:Nat,(r=0∨16*r<len)∧e.i.getD 0 0=((16*r:Nat):Int)∧(∀j,j<16→(e.a.getD 0 fun _=>0) j=(RI B r j:Nat))∧∀j,j<len→(e.a.getD 1 fun _=>0) j=((if j<16*r then eZ n K B T j else T j:Nat):Int),
  fun e=>((len:Int)+1 - e.i.getD 0 0).toNat,⟨0,_,_,fun _ _=>rfl,rfl,fun _ _=>rfl,0,.inl rfl,rfl,fun _ _=>rfl,fun j hj=>?_⟩,?_⟩
 ·simp
 rintro x2 A4 A5 ⟨r,hr,h0,hA,hC⟩;simp only [ah,aiS]at h0 hA hC;subst h0;have hN:=CF B hB r;refine⟨EP n K (RI B r) b v,?_,?_⟩
 ·rw [dZ hA,←hx];exact za b v n hn Lm K _ hK hN
 rintro x hs ⟨rfl,rfl⟩;have hE:=CB n K (RI B r) hK hN;refine⟨fun j=>(enc n K (RI B r) j:Nat),by rw [ajp,List.append_nil],by rw [←hx];rfl,?_⟩;intro _;refine⟨fun e=> ∃i:Nat,i≤16∧16*r+i≤len∧e.i.getD 0 0=(i:Int)∧e.i.getD 1 0=((16*r+i:Nat):Int)∧∀j,j<len→(e.a.getD 0 fun _=>0) j=((if j<16*r+i then eZ n K B T j else T j:Nat):Int),
  fun e=>((16:Int) - e.i.getD 0 0).toNat,⟨0,_,_,rfl,fun _ _=>rfl,rfl,0,by omega,by omega,rfl,rfl,hC⟩,?_⟩
 rintro x3 x4 A7 ⟨i,hi,yL,h3,h4,hD⟩;simp only [ah,aiS]at h3 h4 hD;subst h3 h4;have tn:ag (len:Int)=len:=rfl;have ti:ag (i:Int)=i:=rfl;have tr:ag ((16*r+i:Nat):Int)=16*r+i:=rfl;refine⟨by omega,fun _=>⟨fun bX=>?_,fun jI=>?_⟩⟩
 ·repeat (first | (intro _) | (refine⟨by omega,fun _=>?_⟩))
  have agW:i<16:=by omega
  have Uy:16*r+i<len:=by omega
  refine⟨((i+1:Nat):Int),((16*r+(i+1):Nat):Int),_,by omega,fun _ _=>rfl,by omega,⟨i+1,by omega,by omega,rfl,rfl,?_⟩,?_⟩
  ·intro j hj;simp only [ah];rw [tr,ti,hD _ Uy,if_neg (by omega)];unfold au;split
   ·rename_i e;subst e;rw [if_pos (by omega),cF (hT _) (hE _)];unfold eZ;rw [show(16*r+i)/16=r by omega,show(16*r+i)%16=i by omega]
   ·rename_i e;rw [hD j hj];by_cases IT:j<16*r+i
    ·rw [if_pos IT,if_pos (by omega)]
    ·rw [if_neg IT,if_neg (by omega)]
  ·simp only [ah];omega
 ·refine⟨by omega,fun _=>⟨fun he=>?_,fun dI=>?_⟩⟩
  ·refine⟨v2,al b2 true ((aj .u8 16 fun j=>((B j:Nat):Int)).append []),al b3 true [v2.v],rfl,?_⟩;have e1:aW (ag (len:Int)) [bd .u8 1 A7]=aW len [bd .u8 1 fun j=>(eZ n K B T j:Nat)]:=bJ fun j hj=>by rw [hD j hj,if_pos (by omega)]
   rw [e1,←hx];rfl
  ·refine⟨fun x hs=>x=bY (nx (RI B r))∧hs=[],?_,?_⟩
   ·rw [dZ hA];exact fK _ hN
   rintro x hs ⟨rfl,rfl⟩;have h16:i=16:=by omega
   subst h16;refine⟨fun j=>(nx (RI B r) j:Nat),by unfold bY;rw [ajp,List.append_nil],rfl,((16*(r+1):Nat):Int),_,_,fun _ _=>rfl,by omega,fun _ _=>rfl,⟨r+1,.inr (by omega),rfl,fun _ _=>rfl,fun j hj=>?_⟩,?_⟩
   ·simp only [ah,aiS];rw [hD j hj,show 16*r+16=16*(r+1) by omega]
   ·simp only [ah];omega
end Go.RX.Fg

namespace Go.Gh
def xs:Nat→(Nat→Bool)→Bool
 | 0,_=>false
 | n+1,f=>xs n f ^^ f n
theorem lY{n:Nat}{f g:Nat→Bool}(h: ∀j,j<n→f j=g j):xs n f=xs n g:=by
 induction n with
 | zero=>rfl
 | succ n ih=>rw [xs,xs,ih fun j hj=>h j (by omega),h n (by omega)]
theorem Va(n:Nat)(b:Bool)(f:Nat→Bool):xs n (fun j=>b&&f j)=(b&&xs n f):=by
 induction n with
 | zero=>cases b<;>rfl
 | succ n ih=>rw [xs,xs,ih];cases b<;>simp
theorem Oy(n:Nat):xs n (fun _=>false)=false:=by
 induction n with
 | zero=>rfl
 | succ n ih=>rw [xs,ih];rfl
theorem Vb(n k:Nat)(hk:k<n)(b:Bool):xs n (fun j=>b&&decide (j=k))=b:=by
 induction n with
 | zero=>omega
 | succ n ih=>
  rw [xs];by_cases h:k=n
  ·subst h;rw [lY (g:=fun _=>false) (fun j hj=>by have: ¬j=k:=(by omega);simp [this]),Oy];simp
  ·have: ¬n=k:=fun h'=>h h'.symm
   rw [ih (by omega)];simp [this]
theorem RK(n k:Nat)(hk:k<n)(f:Nat→Bool):xs n (fun j=>f j&&decide (j=k))=f k:=by
 rw [←Vb n k hk (f k)];refine lY fun j _=>?_
 by_cases h:j=k
 ·subst h;rfl
 ·simp [h]
def xt(f:Nat→Bool):Nat→Bool:=fun i=>if i=0 then f 127 else f (i - 1) ^^ (f 127&&(decide (i=1)||decide (i=2)||decide (i=7)))
def vY:Nat→(Nat→Bool)→(Nat→Bool)
 | 0,f=>f
 | n+1,f=>xt (vY n f)
def add(f g:Nat→Bool):Nat→Bool:=fun i=>f i ^^ g i
theorem Vc(f g:Nat→Bool):xt (add f g)=add (xt f) (xt g):=by
 funext i;unfold xt add;by_cases h:i=0
 ·simp [h]
 ·simp only [h,if_false];generalize (decide (i=1)||decide (i=2)||decide (i=7))=w;cases f (i - 1)<;>cases g (i - 1)<;>cases f 127<;>cases g 127<;>cases w<;>rfl
theorem RL(n:Nat)(f g:Nat→Bool):vY n (add f g)=add (vY n f) (vY n g):=by
 induction n with
 | zero=>rfl
 | succ n ih=>rw [vY,ih,Vc];rfl
theorem Jx{f g:Nat→Bool}(h: ∀i,i<128→f i=g i): ∀i,i<128→xt f i=xt g i:=by
 intro i hi;unfold xt;rw [h 127 (by omega)];split
 ·rfl
 ·rw [h (i - 1) (by omega)]
theorem Oz(n:Nat){f g:Nat→Bool}(h: ∀i,i<128→f i=g i): ∀i,i<128→vY n f i=vY n g i:=by
 induction n with
 | zero=>exact h
 | succ n ih=>exact Jx ih
theorem RM(a b:Nat)(f:Nat→Bool):vY a (vY b f)=vY (a+b) f:=by
 induction a with
 | zero=>rw [Nat.zero_add];rfl
 | succ a ih=>rw [vY,ih,show a+1+b=(a+b)+1 by omega];rfl
def e(k:Nat):Nat→Bool:=fun i=>decide (i=k)
def R(k:Nat):Nat→Bool:=vY k (e 0)
theorem acf(k:Nat)(hk:k<127):xt (e k)=e (k+1):=by
 funext i;unfold xt e;by_cases h:i=0
 ·subst h;simp;omega
 ·simp only [h,if_false];have h1:decide (127=k)=false:=by simp;omega
  rw [h1];simp;omega
theorem R_e(k:Nat)(hk:k<128):R k=e k:=by
 induction k with
 | zero=>rfl
 | succ k ih=>
  show xt (R k)=_;rw [ih (by omega),acf k (by omega)]
theorem YF(a b:Nat):vY a (R b)=R (a+b):=RM a b (e 0)
theorem Vd(f:Nat→Bool)(i:Nat)(hi:i<128):f i=xs 128 (fun b=>f b&&R b i):=by
 rw [←RK 128 i hi f];refine lY fun b hb=>?_
 rw [R_e b hb];unfold e;by_cases h:b=i
 ·simp [h]
 ·have: ¬i=b:=fun h'=>h h'.symm
  simp [h,this]
theorem Jy(a n:Nat)(c:Nat→Bool)(g:Nat→Nat→Bool)(i:Nat):vY a (fun i=>xs n fun b=>c b&&g b i) i=xs n (fun b=>c b&&vY a (g b) i):=by
 induction n with
 | zero=>
  show vY a (fun _=>false) i=false;have: ∀a,vY a (fun _=>false)=fun _=>false:=by
   intro a
   induction a with
   | zero=>rfl
   | succ a ih=>rw [vY,ih];funext j;unfold xt;split<;>simp
  rw [this]
 | succ n ih=>
  have e1:(fun i=>xs (n+1) fun b=>c b&&g b i)=add (fun i=>xs n fun b=>c b&&g b i) (fun i=>c n&&g n i):=rfl;rw [e1,RL];unfold add;rw [ih,xs];congr 1;cases c n
  ·have: ∀a,vY a (fun _=>false)=fun _=>false:=by
    intro a
    induction a with
    | zero=>rfl
    | succ a ih=>rw [vY,ih];funext j;unfold xt;split<;>simp
   simp [this]
  ·simp
theorem OA(a:Nat)(q:Nat→Bool)(i:Nat)(hi:i<128):vY a q i=xs 128 (fun b=>q b&&R (a+b) i):=by
 have h: ∀i,i<128→q i=(fun i=>xs 128 fun b=>q b&&R b i) i:=fun i hi=>Vd q i hi
 rw [Oz a h i hi,Jy a 128 q R i];exact lY fun b _=>by rw [YF]
def gm(p q:Nat→Bool):Nat→Bool:=fun i=>xs 128 fun a=>xs 128 fun b=>(p a&&q b)&&R (a+b) i
def n7(p q:Nat→Bool):Nat→(Nat→Bool)
 | 0=>fun _=>false
 | k+1=>fun i=>xt (n7 p q k) i ^^ (p (127 - k)&&q i)
theorem Jz(p q:Nat→Bool): ∀(k:Nat),k≤128→∀i,i<128→n7 p q k i=xs k (fun j=>p (128 - k+j)&&vY j q i)
 | 0,_,i,_=>rfl
 | k+1,hk,i,hi=>by
  have ih:=Jz p q k (by omega);have h1:xt (n7 p q k) i=xs k (fun j=>p (128 - k+j)&&vY (j+1) q i):=by
   rw [Jx (f:=n7 p q k) (g:=fun i=>xs k fun j=>p (128 - k+j)&&vY j q i) ih i hi];exact Jy 1 k (fun j=>p (128 - k+j)) (fun j=>vY j q) i
  show(xt (n7 p q k) i ^^ (p (127 - k)&&q i))=_;rw [h1];clear ih h1;have h2: ∀(n:Nat) (f:Nat→Bool),xs (n+1) f=(f 0 ^^ xs n fun j=>f (j+1)):=by
   intro n f
   induction n with
   | zero=>simp [xs]
   | succ n ih=>rw [xs,ih,xs];cases f 0<;>simp
  rw [h2,show 128 - (k+1)+0=127 - k by omega,Bool.xor_comm];congr 1;refine lY fun j _=>?_
  rw [show 128 - (k+1)+(j+1)=128 - k+j by omega]
theorem Ve(p q:Nat→Bool)(i:Nat)(hi:i<128):n7 p q 128 i=gm p q i:=by
 rw [Jz p q 128 (Nat.le_refl _) i hi];refine lY fun a _=>?_
 rw [show 128 - 128+a=a by omega,OA a q i hi,←Va];refine lY fun b _=>?_
 cases p a<;>cases q b<;>simp
def conv(p q:Nat→Bool):Nat→Bool:=fun k=>xs 128 fun a=>xs 128 fun b=>(p a&&q b)&&decide (a+b=k)
end Go.Gh
