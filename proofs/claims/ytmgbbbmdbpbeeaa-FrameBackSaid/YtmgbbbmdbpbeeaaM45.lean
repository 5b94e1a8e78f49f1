/- Opening a frame. -/
import Derived.Test.YtmgbbbmdbpbeeaaM44
open Classical renaming not_not → adJ
open Go.IntKind renaming wrap → ae
open Go.Proofs.Try renaming prog → adE
open Int renaming toNat → ag
open List renaming append → ads, mem_cons → adW, not_mem_nil → adP
namespace Go.RX.Fm
open Go Go.RX Go.Proofs Go.RX.Sh Go.RX.Fg Go.RX.Fi Go.RX.Fj Go.RX.Fk Go.Hd Go.Gh Go.Gc Go.Ae Go.RX.Fe Go.Se
theorem vB{B:List HP}{x0 x1 x2:Value}(s:Nat)(h0:x0.oneCell'=true)(h1:x1.oneCell'=true)(h2:x2.oneCell'=true)(kn:Nat)(hk:kn=4*kR s)(K N A T:Nat→Nat)(hK: ∀j,K j<256)(hN: ∀j,N j<256)(hA: ∀j,A j<256)(hT: ∀j,T j<256)(n1 m:Nat)(hl:n1+m+100≤140737488355328)
  (Ka:ay B (aL x0 kn K)) (BN:ay B (aL x1 n1 A)) (C_:ay B (aL x2 m T)):
  ar adE 37 [x0,eF N,x1,x2] B fun r hs=> ∃(o:V1) (L:Nat) (c:Int),r= .tuple #[o.v,.int .i64 c]∧hs=B++[al true o L (df (kR s) K N T)]∧((opens (kR s) K N n1 A m T∧L=m - 16∧c=0)∨(¬opens (kR s) K N n1 A m T∧L=0∧c=140)):=by
 have h:ar adE 37 [x0,eF N,x1,x2] B fun r hs=> ∃nw,pG (kR s) K N n1 A m T r nw∧hs=B++nw:=by
  by_cases c5:s=5
  ·have e8:kR s=8:=by unfold kR;rw [if_pos c5]
   rw [e8]at hk ⊢;subst hk;exact zM h0 h1 h2 K N A T hK hN hA hT n1 m hl Ka BN C_
  ·have e8:kR s=4:=by unfold kR;rw [if_neg c5]
   rw [e8]at hk ⊢;subst hk;exact zI h0 h1 h2 K N A T hK hN hA hT n1 m hl Ka BN C_
 refine ar.post h ?_;rintro r hs ⟨nw,⟨ho,o,rfl,rfl⟩ | ⟨ho,rfl,rfl⟩,rfl⟩
 ·exact⟨_,bU.refl _,o,m - 16,0,rfl,rfl,.inl ⟨ho,rfl,rfl⟩⟩
 ·exact⟨_,bU.front (A:=B) (bU.oa (t:=5)),⟨.slice none 0 0,rfl⟩,0,140,rfl,rfl,.inr ⟨ho,rfl,rfl⟩⟩
def Nd(s kn aM na m:Nat)(K S A F:Nat→Nat)(r:Value)(hs:List HP):Prop:=
 ∃o:V1,r= .tuple #[o.v,.int .u64 (AS s kn aM K S na A m F:Nat),.int .i64 (dK s kn aM K S na A m F:Nat)]∧hs=[al true o (yK s kn aM K S na A m F) (ot s K S F)]
set_option maxHeartbeats 4000000 in
theorem E7(s aM kn na m:Nat)(v0 v1 v2:V1)(K S A F:Nat→Nat)(hK: ∀j,K j<256)(hS: ∀j,S j<256)(hA: ∀j,A j<256)(hF: ∀j,F j<256)(hm:m≤9223372036854775807):
  ar adE 8 [.agg (.int .u16 (s:Int):: .int .u64 (aM:Int)::v0.v::(ads (aj .u8 12 fun j=>((S j:Nat):Int)) [])).toArray,v1.v,v2.v] [al false v0 kn K,al false v1 na A,al false v2 m F] (Nd s kn aM na m K S A F):=by
 refine ar.post (p:=fun r hs=>(dK s kn aM K S na A m F≠0∧r= .tuple #[.slice none 0 0,.int .u64 0,.int .i64 (dK s kn aM K S na A m F:Nat)])∨(dK s kn aM K S na A m F=0∧∃o:V1,r= .tuple #[o.v,.int .u64 (bM F:Nat),.int .i64 0]∧hs=[al true o (m - hlen F - bw s) (ot s K S F)])) ?_ ?_;rotate_left
 ·rintro r hs (⟨h,rfl⟩ | ⟨h,o,rfl,rfl⟩)
  ·refine⟨_,bU.trans (bU.sub (List.nil_sublist _)) (bU.oa (t:=5)),⟨.slice none 0 0,rfl⟩,?_,?_⟩
   ·unfold AS;rw [if_neg h];rfl
   ·unfold yK;rw [if_neg h];rfl
  ·refine⟨_,bU.refl _,o,?_,?_⟩
   ·unfold AS;rw [if_pos h,h];rfl
   ·unfold yK;rw [if_pos h]
 refine Lf _ (s:Int) (aM:Int) (kn:Int) (na:Int) (m:Int) (fun j=>(K j:Nat)) (fun j=>(S j:Nat)) (fun j=>(A j:Nat)) (fun j=>(F j:Nat)) v0 v1 v2 ?_;unfold Dl;intro b0 b1 b2;refine⟨_,vu s,?_⟩;rintro x hs ⟨⟨gj,rfl⟩ | ⟨gj,rfl⟩,rfl⟩;rotate_left
 ·refine⟨0,0,0,0,0,130,rfl,rfl,?_⟩;intro b3;have:dK s kn aM K S na A m F=130:=by unfold dK;rw [if_pos gj]
  refine⟨fun _ b4=> .inl ⟨?_,?_⟩,fun h=>absurd h (by decide)⟩
  ·rw [this];decide
  ·rw [this];rfl
 refine⟨(qM s:Nat),(db s:Nat),(yH s:Nat),(bw s:Nat),(pK s:Nat),0,rfl,rfl,?_⟩;intro b3;have S5: ¬¬isS s:=adJ.2 gj;refine⟨fun h=>absurd rfl h,fun _=>⟨by omega,fun _=>⟨fun hk b4=> .inl ?_,fun hk=>⟨by omega,fun _=>⟨fun h3 b4=> .inl ?_,fun h3 b4=>?_⟩⟩⟩⟩⟩
 ·have:dK s kn aM K S na A m F=2:=by unfold dK;rw [if_neg S5,if_pos (by omega)]
  exact⟨by rw [this];decide,by rw [this];rfl⟩
 ·have:dK s kn aM K S na A m F=3:=by unfold dK;rw [if_neg S5,if_neg (by omega),if_pos (by omega)]
  exact⟨by rw [this];decide,by rw [this];rfl⟩
 have AV:kn=db s:=by omega
 have zi:bw s≤16:=by
  rcases gj with h | h | h | h | h<;>subst h<;>decide
 refine⟨_,G8 v2.one m F hF (B:=[al false v2 m F]) ay.view,?_⟩;rintro x hs ⟨⟨hh,rfl⟩ | ⟨hh,rfl⟩,rfl⟩;rotate_left
 ·refine⟨0,0,0,9,rfl,rfl,?_⟩;intro b5;have:dK s kn aM K S na A m F=9:=by unfold dK;rw [if_neg S5,if_neg (by omega),if_neg (by omega),if_pos hh]
  refine⟨fun _=> .inl ⟨?_,?_⟩,fun h=>absurd h (by decide)⟩
  ·rw [this];decide
  ·rw [this];rfl
 refine⟨(fZ F:Nat),(bM F:Nat),(hlen F:Nat),0,rfl,rfl,?_⟩;intro b5;have WG: ¬¬yG m F:=adJ.2 hh;have Rj:hlen F≤m:=hh.1;have hhl:=Qf hF;refine⟨fun h=>absurd rfl h,fun _=>⟨fun j_=> .inl ?_,fun j_=>⟨by omega,fun _=>⟨by omega,fun _=>⟨by omega,fun _=>⟨by omega,fun _=>⟨by omega,fun _=>⟨fun h5=> .inl ?_,fun h5=>⟨by omega,fun _=>⟨by omega,fun _=>?_⟩⟩⟩⟩⟩⟩⟩⟩⟩⟩
 ·have:dK s kn aM K S na A m F=4:=by unfold dK;rw [if_neg S5,if_neg (by omega),if_neg (by omega),if_neg WG,if_pos (by omega)]
  exact⟨by rw [this];decide,by rw [this];rfl⟩
 ·have:dK s kn aM K S na A m F=3:=by unfold dK;rw [if_neg S5,if_neg (by omega),if_neg (by omega),if_neg WG,if_neg (by omega),if_pos (by omega)]
  exact⟨by rw [this];decide,by rw [this];rfl⟩
 have Kn: ¬gP s K S na A m F→dK s kn aM K S na A m F=140:=fun h=>by
  unfold dK;rw [if_neg S5,if_neg (by omega),if_neg (by omega),if_neg WG,if_neg (by omega),if_neg (by omega),if_neg h]
 have IE:gP s K S na A m F→dK s kn aM K S na A m F=0:=fun h=>by
  unfold dK;rw [if_neg S5,if_neg (by omega),if_neg (by omega),if_neg WG,if_neg (by omega),if_neg (by omega),if_pos h]
 have jO:=G4 hF;have hN:=ud hS (bM F);have Ri:=S3 hF hA;have Rk: ∀j,cc F j<256:=fun j=>hF _
 have oF:=fun(v0:V1)=>vr s aM (bM F) v0 S hS jO
 have tm:ag (m:Int)=m:=rfl;have th:ag ((hlen F:Nat):Int)=hlen F:=rfl;have bt:ay [al false v2 m F] (aL (aC 1 v2.v (hlen F) m none) (m - hlen F) (cc F)):=ay.part (lo:=hlen F) (hi:=m) (mx:=none) (ay.view (v:=v2) (n:=m) (T:=F)) Rj (Nat.le_refl _) (by simp);have bh:ay [al false v2 m F] (aL (aC 1 v2.v 0 (hlen F) none) (hlen F) F):=by
  have:=ay.part (lo:=0) (hi:=hlen F) (mx:=none) (ay.view (v:=v2) (n:=m) (T:=F)) (by omega) Rj (by simp);rw [Nat.sub_zero]at this;simp only [Nat.zero_add]at this;exact this
 refine⟨fun b6 b7 b8=>?_,fun b6 b7 b8 b9=>?_⟩
 ·refine⟨fun hg b9=>?_,fun hg=>?_⟩
  ·have qN:4≤s:=by
    rcases gj with h | h | h | h | h<;>subst h<;>first | (exact absurd hg (by decide)) | decide
   have yx:kn=4*kR s:=by
    rw [AV];rcases gj with h | h | h | h | h<;>subst h<;>first | (exact absurd qN (by decide)) | rfl
   have Nc:bw s=16:=by
    rcases gj with h | h | h | h | h<;>subst h<;>first | (exact absurd qN (by decide)) | rfl
   refine⟨_,fC (B:=[al false v2 m F,al false v1 na A]) b9 (aI ..) v1.one (hlen F) na F A (by omega) (ay.left (C:=[al false v1 na A]) bh) (ay.get 1 rfl),?_⟩;rintro x hs ⟨v3,rfl,rfl⟩;refine⟨v3,(hlen F+na:Nat),fun j=>(oH F A j:Nat),rfl,rfl,?_⟩;refine⟨_,oF v0,?_⟩;rintro x hs ⟨rfl,rfl⟩;refine⟨fun j=>(aW S (bM F) j:Nat),rfl,rfl,?_⟩;refine⟨_,vB (B:=[al false v0 kn K,al true v3 (hlen F+na) (oH F A),al false v2 m F]) s v0.one v3.one (aI ..) kn yx K (aW S (bM F)) (oH F A) (cc F) hK hN Ri Rk (hlen F+na) (m - hlen F) (by omega) (ay.get 0 rfl) (ay.get 1 rfl) (ay.right (A:=[al false v0 kn K,al true v3 (hlen F+na) (oH F A)]) bt),?_⟩;rintro x hs ⟨v4,gL,gc,rfl,rfl,ho⟩;refine⟨v4,(gL:Int),gc,fun j=>(df (kR s) K (aW S (bM F)) (cc F) j:Nat),rfl,rfl,?_⟩;have yL:opens (kR s) K (aW S (bM F)) (hlen F+na) (oH F A) (m - hlen F) (cc F)↔gP s K S na A m F:=(E5 gj qN _ _ _ _ _ _).symm;rcases ho with⟨ho,rfl,rfl⟩ | ⟨ho,rfl,rfl⟩
   ·refine⟨fun h=>absurd rfl h,fun _=> .inr ⟨IE (yL.1 ho),v4,rfl,?_⟩⟩;unfold ot iC;rw [if_pos qN,Nc];rfl
   ·have:=Kn fun h=>ho (yL.2 h)
    exact⟨fun _=> .inl ⟨by rw [this];decide,by rw [this];rfl⟩,fun h=>absurd h (by decide)⟩
  ·have qN: ¬4≤s:=by
    rcases gj with h | h | h | h | h<;>subst h<;>first | (exact absurd rfl hg) | decide
   have Vw:yH s=16:=by
    rcases gj with h | h | h | h | h<;>subst h<;>first | (exact absurd (by decide) qN) | rfl
   have Vx:db s=48:=by
    rcases gj with h | h | h | h | h<;>subst h<;>first | (exact absurd (by decide) qN) | rfl
   have eh:qM s=1:=by
    rcases gj with h | h | h | h | h<;>subst h<;>first | (exact absurd (by decide) qN) | rfl
   rw [Vw,eh];have Vy:kn=48:=by rw [AV,Vx]
   refine⟨by omega,fun _=>⟨by omega,fun _=>?_⟩⟩;have Vz:ay [al false v0 kn K] (aL (aC 1 v0.v 0 16 none) 16 K):=by
    have:=ay.part (lo:=0) (hi:=16) (mx:=none) (ay.view (v:=v0) (n:=kn) (T:=K)) (by decide) (by omega) (by simp);simp only [Nat.zero_add]at this;exact this
   refine⟨_,lU (B:=[al false v0 kn K]) (aI ..) K hK Vz,?_⟩;rintro x hs ⟨bc,v3,rfl,rfl⟩;refine⟨bc,v3,(4*(4+7):Nat),fun j=>(sb j:Nat),cw 4 K,rfl,rfl,?_⟩;intro Oi Wa QE Oj;refine⟨_,fC (B:=[al false v2 m F,al false v1 na A]) Oj (aI ..) v1.one (hlen F) na F A (by omega) (ay.left (C:=[al false v1 na A]) bh) (ay.get 1 rfl),?_⟩;rintro x hs ⟨v4,rfl,rfl⟩;refine⟨v4,(hlen F+na:Nat),fun j=>(oH F A j:Nat),rfl,rfl,?_⟩;by_cases rK:m - hlen F<bw s
   ·have Pj: ¬gP s K S na A m F:=fun h=>by have:=h.1;omega
    have:=Kn Pj
    iterate 12 refine⟨by omega,fun _=>?_⟩
    refine⟨fun h=>by omega,fun _=> .inl ?_⟩;exact⟨by rw [this];decide,by rw [this];rfl⟩
   have e1:(m:Int) - ((hlen F:Nat):Int)=((m - hlen F:Nat):Int):=by omega
   rw [e1];have e2:((m - hlen F:Nat):Int) - ((bw s:Nat):Int)=((m - hlen F - bw s:Nat):Int):=by omega
   rw [e2];have hd:(decide (((m - hlen F - bw s:Nat):Int)<0))=false:=decide_eq_false (by omega);rw [hd]
   iterate 12 refine⟨by omega,fun _=>?_⟩
   refine⟨fun _=>?_,fun h=>by omega⟩;have Ym: ∀j,j<m - hlen F - bw s→cc F (0+j)=cc F j:=fun j _=>by rw [Nat.zero_add]
   have bx:ay [al false v2 m F] (aL (aC 1 (aC 1 v2.v (hlen F) m none) 0 (m - hlen F - bw s) none) (m - hlen F - bw s) (cc F)):=by
    have:=ay.part (lo:=0) (hi:=m - hlen F - bw s) (mx:=none) bt (by omega) (by omega) (by simp);rw [Nat.sub_zero,n9 Ym]at this;exact this
   have bg:ay [al false v2 m F] (aL (aC 1 (aC 1 v2.v (hlen F) m none) (m - hlen F - bw s) (m - hlen F) none) (bw s) fun j=>cc F (m - hlen F - bw s+j)):=by
    have:=ay.part (lo:=m - hlen F - bw s) (hi:=m - hlen F) (mx:=none) bt (by omega) (by omega) (by simp);rw [show m - hlen F - (m - hlen F - bw s)=bw s by omega]at this;exact this
   refine⟨_,oF v0,?_⟩;rintro x hs ⟨rfl,rfl⟩;refine⟨fun j=>(aW S (bM F) j:Nat),rfl,rfl,?_⟩;intro KJ
   iterate 4 refine⟨by omega,fun _=>?_⟩
   refine⟨_,jc (hlen F+na),?_⟩;rintro x hs ⟨v5,rfl,rfl⟩;refine⟨v5,fun j=>(ew (hlen F+na) j:Nat),rfl,rfl,?_⟩;refine⟨_,jc (m - hlen F - bw s),?_⟩;rintro x hs ⟨v6,rfl,rfl⟩;refine⟨v6,fun j=>(ew (m - hlen F - bw s) j:Nat),rfl,rfl,?_⟩;refine⟨_,jc (bw s),?_⟩;rintro x hs ⟨v7,rfl,rfl⟩;refine⟨v7,fun j=>(ew (bw s) j:Nat),rfl,rfl,?_⟩;intro bm;have t48:ag (kn:Int)=48:=by omega
   dsimp only [bo,bi,bn];rw [t48];refine⟨_,rC bm KJ v0 K hK false v5 v6 v7 v4 (aC 1 (aC 1 v2.v (hlen F) m none) 0 (m - hlen F - bw s) none) (aI ..) v2 m F s (aW S (bM F)) (hlen F+na) (oH F A) (m - hlen F - bw s) (cc F) hN Ri Rk (by omega) bx,?_⟩;rintro x hs ⟨v8,rfl,rfl⟩;refine⟨v8,(32:Nat),fun j=>(gb s K (aW S (bM F)) (hlen F+na) (oH F A) (m - hlen F - bw s) (cc F) j:Nat),rfl,rfl,?_⟩;have bs:ay [al true v8 32 (gb s K (aW S (bM F)) (hlen F+na) (oH F A) (m - hlen F - bw s) (cc F)),al false v2 m F] (aL (aC 1 v8.v 0 (bw s) none) (bw s) (gb s K (aW S (bM F)) (hlen F+na) (oH F A) (m - hlen F - bw s) (cc F))):=by
    have:=ay.part (lo:=0) (hi:=bw s) (mx:=none) (ay.bytes (v:=v8) (n:=32) (T:=gb s K (aW S (bM F)) (hlen F+na) (oH F A) (m - hlen F - bw s) (cc F))) (by omega) (by omega) (by simp);rw [Nat.sub_zero]at this;simp only [Nat.zero_add]at this;exact ay.left (C:=[al false v2 m F]) this
   refine⟨by omega,fun _=>⟨by omega,fun _=>?_⟩⟩;refine⟨_,n_ (B:=[al true v8 32 (gb s K (aW S (bM F)) (hlen F+na) (oH F A) (m - hlen F - bw s) (cc F)),al false v2 m F]) (x1:=aC 1 v8.v 0 (bw s) none) (x2:=aC 1 (aC 1 v2.v (hlen F) m none) (m - hlen F - bw s) (m - hlen F) none) (aI ..) (aI ..) (bw s) (bw s) (gb s K (aW S (bM F)) (hlen F+na) (oH F A) (m - hlen F - bw s) (cc F)) (fun j=>cc F (m - hlen F - bw s+j)) (yI _ _ _ _ _ _ _) (fun j=>Rk _) (by omega) bs (ay.right (A:=[al true v8 32 (gb s K (aW S (bM F)) (hlen F+na) (oH F A) (m - hlen F - bw s) (cc F))]) bg),?_⟩;rintro x hs ⟨rfl,rfl⟩;refine⟨_,rfl,rfl,?_⟩;have yL:m8 (bw s) (bw s) (gb s K (aW S (bM F)) (hlen F+na) (oH F A) (m - hlen F - bw s) (cc F)) (fun j=>cc F (m - hlen F - bw s+j))=true↔gP s K S na A m F:=by
    unfold m8 gP Kl;rw [decide_eq_true_iff,if_neg qN];exact⟨fun h=>⟨by omega,h.2⟩,fun h=>⟨rfl,h.2⟩⟩
   refine⟨fun dR=> .inl ?_,fun heq=>?_⟩
   ·have:=Kn fun h=>dR (yL.2 h)
    exact⟨by rw [this];decide,by rw [this];rfl⟩
   have S6:=yL.1 (adJ.1 heq);intro QF;refine⟨_,oF v0,?_⟩;rintro x hs ⟨rfl,rfl⟩;refine⟨fun j=>(aW S (bM F) j:Nat),rfl,rfl,?_⟩;intro KH CX;rw [rB];have hC:=iX hN (c:=0) (by decide);refine⟨_,fY (B:=[al false v2 m F]) (x:=aC 1 (aC 1 v2.v (hlen F) m none) 0 (m - hlen F - bw s) none) (aI ..) bc CX v3 4 (by decide) (by decide) K (dT (aW S (bM F)) 0) (cc F) hK hC Rk (m - hlen F - bw s) (by omega) bx,?_⟩;rintro x hs ⟨v9,rfl,rfl⟩;refine⟨v9,(m - hlen F - bw s:Nat),fun j=>(eu 4 K (dT (aW S (bM F)) 0) (cc F) j:Nat),rfl,rfl,?_⟩;refine .inr ⟨IE S6,v9,rfl,?_⟩;unfold ot iC;rw [if_neg qN];rfl
 ·refine⟨fun hg=>?_,fun hg=>?_⟩
  ·have qN:4≤s:=by
    rcases gj with h | h | h | h | h<;>subst h<;>first | (exact absurd hg (by decide)) | decide
   have yx:kn=4*kR s:=by
    rw [AV];rcases gj with h | h | h | h | h<;>subst h<;>first | (exact absurd qN (by decide)) | rfl
   have Nc:bw s=16:=by
    rcases gj with h | h | h | h | h<;>subst h<;>first | (exact absurd qN (by decide)) | rfl
   refine⟨_,fC (B:=[al false v2 m F,al false v1 na A]) b6 (aI ..) v1.one (hlen F) na F A (by omega) (ay.left (C:=[al false v1 na A]) bh) (ay.get 1 rfl),?_⟩;rintro x hs ⟨v3,rfl,rfl⟩;refine⟨v3,(hlen F+na:Nat),fun j=>(oH F A j:Nat),rfl,rfl,?_⟩;refine⟨_,oF v0,?_⟩;rintro x hs ⟨rfl,rfl⟩;refine⟨fun j=>(aW S (bM F) j:Nat),rfl,rfl,?_⟩;refine⟨_,vB (B:=[al false v0 kn K,al true v3 (hlen F+na) (oH F A),al false v2 m F]) s v0.one v3.one (aI ..) kn yx K (aW S (bM F)) (oH F A) (cc F) hK hN Ri Rk (hlen F+na) (m - hlen F) (by omega) (ay.get 0 rfl) (ay.get 1 rfl) (ay.right (A:=[al false v0 kn K,al true v3 (hlen F+na) (oH F A)]) bt),?_⟩;rintro x hs ⟨v4,gL,gc,rfl,rfl,ho⟩;refine⟨v4,(gL:Int),gc,fun j=>(df (kR s) K (aW S (bM F)) (cc F) j:Nat),rfl,rfl,?_⟩;have yL:opens (kR s) K (aW S (bM F)) (hlen F+na) (oH F A) (m - hlen F) (cc F)↔gP s K S na A m F:=(E5 gj qN _ _ _ _ _ _).symm;rcases ho with⟨ho,rfl,rfl⟩ | ⟨ho,rfl,rfl⟩
   ·refine⟨fun h=>absurd rfl h,fun _=> .inr ⟨IE (yL.1 ho),v4,rfl,?_⟩⟩;unfold ot iC;rw [if_pos qN,Nc];rfl
   ·have:=Kn fun h=>ho (yL.2 h)
    exact⟨fun _=> .inl ⟨by rw [this];decide,by rw [this];rfl⟩,fun h=>absurd h (by decide)⟩
  ·have qN: ¬4≤s:=by
    rcases gj with h | h | h | h | h<;>subst h<;>first | (exact absurd rfl hg) | decide
   have Vw:yH s=16:=by
    rcases gj with h | h | h | h | h<;>subst h<;>first | (exact absurd (by decide) qN) | rfl
   have Vx:db s=48:=by
    rcases gj with h | h | h | h | h<;>subst h<;>first | (exact absurd (by decide) qN) | rfl
   have eh:qM s=1:=by
    rcases gj with h | h | h | h | h<;>subst h<;>first | (exact absurd (by decide) qN) | rfl
   rw [Vw,eh];have Vy:kn=48:=by rw [AV,Vx]
   refine⟨by omega,fun _=>⟨by omega,fun _=>?_⟩⟩;have Vz:ay [al false v0 kn K] (aL (aC 1 v0.v 0 16 none) 16 K):=by
    have:=ay.part (lo:=0) (hi:=16) (mx:=none) (ay.view (v:=v0) (n:=kn) (T:=K)) (by decide) (by omega) (by simp);simp only [Nat.zero_add]at this;exact this
   refine⟨_,lU (B:=[al false v0 kn K]) (aI ..) K hK Vz,?_⟩;rintro x hs ⟨bc,v3,rfl,rfl⟩;refine⟨bc,v3,(4*(4+7):Nat),fun j=>(sb j:Nat),cw 4 K,rfl,rfl,?_⟩;intro Wa QE Oj;refine⟨_,fC (B:=[al false v2 m F,al false v1 na A]) b6 (aI ..) v1.one (hlen F) na F A (by omega) (ay.left (C:=[al false v1 na A]) bh) (ay.get 1 rfl),?_⟩;rintro x hs ⟨v4,rfl,rfl⟩;refine⟨v4,(hlen F+na:Nat),fun j=>(oH F A j:Nat),rfl,rfl,?_⟩;by_cases rK:m - hlen F<bw s
   ·have Pj: ¬gP s K S na A m F:=fun h=>by have:=h.1;omega
    have:=Kn Pj
    iterate 12 refine⟨by omega,fun _=>?_⟩
    refine⟨fun h=>by omega,fun _=> .inl ?_⟩;exact⟨by rw [this];decide,by rw [this];rfl⟩
   have e1:(m:Int) - ((hlen F:Nat):Int)=((m - hlen F:Nat):Int):=by omega
   rw [e1];have e2:((m - hlen F:Nat):Int) - ((bw s:Nat):Int)=((m - hlen F - bw s:Nat):Int):=by omega
   rw [e2];have hd:(decide (((m - hlen F - bw s:Nat):Int)<0))=false:=decide_eq_false (by omega);rw [hd]
   iterate 12 refine⟨by omega,fun _=>?_⟩
   refine⟨fun _=>?_,fun h=>by omega⟩;have Ym: ∀j,j<m - hlen F - bw s→cc F (0+j)=cc F j:=fun j _=>by rw [Nat.zero_add]
   have bx:ay [al false v2 m F] (aL (aC 1 (aC 1 v2.v (hlen F) m none) 0 (m - hlen F - bw s) none) (m - hlen F - bw s) (cc F)):=by
    have:=ay.part (lo:=0) (hi:=m - hlen F - bw s) (mx:=none) bt (by omega) (by omega) (by simp);rw [Nat.sub_zero,n9 Ym]at this;exact this
   have bg:ay [al false v2 m F] (aL (aC 1 (aC 1 v2.v (hlen F) m none) (m - hlen F - bw s) (m - hlen F) none) (bw s) fun j=>cc F (m - hlen F - bw s+j)):=by
    have:=ay.part (lo:=m - hlen F - bw s) (hi:=m - hlen F) (mx:=none) bt (by omega) (by omega) (by simp);rw [show m - hlen F - (m - hlen F - bw s)=bw s by omega]at this;exact this
   refine⟨_,oF v0,?_⟩;rintro x hs ⟨rfl,rfl⟩;refine⟨fun j=>(aW S (bM F) j:Nat),rfl,rfl,?_⟩;intro KJ
   iterate 4 refine⟨by omega,fun _=>?_⟩
   refine⟨_,jc (hlen F+na),?_⟩;rintro x hs ⟨v5,rfl,rfl⟩;refine⟨v5,fun j=>(ew (hlen F+na) j:Nat),rfl,rfl,?_⟩;refine⟨_,jc (m - hlen F - bw s),?_⟩;rintro x hs ⟨v6,rfl,rfl⟩;refine⟨v6,fun j=>(ew (m - hlen F - bw s) j:Nat),rfl,rfl,?_⟩;refine⟨_,jc (bw s),?_⟩;rintro x hs ⟨v7,rfl,rfl⟩;refine⟨v7,fun j=>(ew (bw s) j:Nat),rfl,rfl,?_⟩;intro bm;have t48:ag (kn:Int)=48:=by omega
   dsimp only [bo,bi,bn];rw [t48];refine⟨_,rC bm KJ v0 K hK false v5 v6 v7 v4 (aC 1 (aC 1 v2.v (hlen F) m none) 0 (m - hlen F - bw s) none) (aI ..) v2 m F s (aW S (bM F)) (hlen F+na) (oH F A) (m - hlen F - bw s) (cc F) hN Ri Rk (by omega) bx,?_⟩;rintro x hs ⟨v8,rfl,rfl⟩;refine⟨v8,(32:Nat),fun j=>(gb s K (aW S (bM F)) (hlen F+na) (oH F A) (m - hlen F - bw s) (cc F) j:Nat),rfl,rfl,?_⟩;have bs:ay [al true v8 32 (gb s K (aW S (bM F)) (hlen F+na) (oH F A) (m - hlen F - bw s) (cc F)),al false v2 m F] (aL (aC 1 v8.v 0 (bw s) none) (bw s) (gb s K (aW S (bM F)) (hlen F+na) (oH F A) (m - hlen F - bw s) (cc F))):=by
    have:=ay.part (lo:=0) (hi:=bw s) (mx:=none) (ay.bytes (v:=v8) (n:=32) (T:=gb s K (aW S (bM F)) (hlen F+na) (oH F A) (m - hlen F - bw s) (cc F))) (by omega) (by omega) (by simp);rw [Nat.sub_zero]at this;simp only [Nat.zero_add]at this;exact ay.left (C:=[al false v2 m F]) this
   refine⟨by omega,fun _=>⟨by omega,fun _=>?_⟩⟩;refine⟨_,n_ (B:=[al true v8 32 (gb s K (aW S (bM F)) (hlen F+na) (oH F A) (m - hlen F - bw s) (cc F)),al false v2 m F]) (x1:=aC 1 v8.v 0 (bw s) none) (x2:=aC 1 (aC 1 v2.v (hlen F) m none) (m - hlen F - bw s) (m - hlen F) none) (aI ..) (aI ..) (bw s) (bw s) (gb s K (aW S (bM F)) (hlen F+na) (oH F A) (m - hlen F - bw s) (cc F)) (fun j=>cc F (m - hlen F - bw s+j)) (yI _ _ _ _ _ _ _) (fun j=>Rk _) (by omega) bs (ay.right (A:=[al true v8 32 (gb s K (aW S (bM F)) (hlen F+na) (oH F A) (m - hlen F - bw s) (cc F))]) bg),?_⟩;rintro x hs ⟨rfl,rfl⟩;refine⟨_,rfl,rfl,?_⟩;have yL:m8 (bw s) (bw s) (gb s K (aW S (bM F)) (hlen F+na) (oH F A) (m - hlen F - bw s) (cc F)) (fun j=>cc F (m - hlen F - bw s+j))=true↔gP s K S na A m F:=by
    unfold m8 gP Kl;rw [decide_eq_true_iff,if_neg qN];exact⟨fun h=>⟨by omega,h.2⟩,fun h=>⟨rfl,h.2⟩⟩
   refine⟨fun dR=> .inl ?_,fun heq=>?_⟩
   ·have:=Kn fun h=>dR (yL.2 h)
    exact⟨by rw [this];decide,by rw [this];rfl⟩
   have S6:=yL.1 (adJ.1 heq);intro QF;refine⟨_,oF v0,?_⟩;rintro x hs ⟨rfl,rfl⟩;refine⟨fun j=>(aW S (bM F) j:Nat),rfl,rfl,?_⟩;intro KH CX;rw [rB];have hC:=iX hN (c:=0) (by decide);refine⟨_,fY (B:=[al false v2 m F]) (x:=aC 1 (aC 1 v2.v (hlen F) m none) 0 (m - hlen F - bw s) none) (aI ..) bc CX v3 4 (by decide) (by decide) K (dT (aW S (bM F)) 0) (cc F) hK hC Rk (m - hlen F - bw s) (by omega) bx,?_⟩;rintro x hs ⟨v9,rfl,rfl⟩;refine⟨v9,(m - hlen F - bw s:Nat),fun j=>(eu 4 K (dT (aW S (bM F)) 0) (cc F) j:Nat),rfl,rfl,?_⟩;refine .inr ⟨IE S6,v9,rfl,?_⟩;unfold ot iC;rw [if_neg qN];rfl
theorem j8{B:List HP}{x0 x1 x2:Value}(h0:x0.oneCell'=true)(h1:x1.oneCell'=true)(h2:x2.oneCell'=true)(s aM kn na m:Nat)(K S A F:Nat→Nat)(hK: ∀j,K j<256)(hS: ∀j,S j<256)(hA: ∀j,A j<256)(hF: ∀j,F j<256)(hm:m≤9223372036854775807)(g0:ay B (aL x0 kn K))(g1:ay B (aL x1 na A))(g2:ay B (aL x2 m F)):
  ar adE 8 [.agg (.int .u16 (s:Int):: .int .u64 (aM:Int)::x0::(ads (aj .u8 12 fun j=>((S j:Nat):Int)) [])).toArray,x1,x2] B fun r hs=> ∃nw,Nd s kn aM na m K S A F r nw∧hs=B++nw:=by
 refine ar.iV (A:=[]) (L:=[aL x0 kn K,aL x1 na A,aL x2 m F]) (Q:=Nd s kn aM na m K S A F) ?_ (by simp) ?_ (Vq g0 g1 g2)
 ·refine ar.post (E7 s aM kn na m ⟨x0,h0⟩ ⟨x1,h1⟩ ⟨x2,h2⟩ K S A F hK hS hA hF hm) ?_;rintro r hs h;exact⟨_,bU.refl _,_,h,rfl⟩
 ·rintro v nw ⟨o,_,rfl⟩ h hh;simp only [adW,adP,or_false]at hh;subst hh;rfl
theorem lV{B:List HP}{x0 x1 x2:Value}(h0:x0.oneCell'=true)(h1:x1.oneCell'=true)(h2:x2.oneCell'=true)(s aM aP kn na nt:Nat)(K S A T:Nat→Nat)(hK: ∀j,K j<256)(hS: ∀j,S j<256)(hA: ∀j,A j<256)(hT: ∀j,T j<256)(j_:aM<18446744073709551616)(jO:aP<18446744073709551616)(g0:ay B (aL x0 kn K))(g1:ay B (aL x1 na A))(g2:ay B (aL x2 nt T)):
  ar adE 7 [.agg (.int .u16 (s:Int):: .int .u64 (aM:Int)::x0::(ads (aj .u8 12 fun j=>((S j:Nat):Int)) [])).toArray,.int .u64 (aP:Int),x1,x2] B fun r hs=> ∃nw,Nb s kn aM aP na nt K S A T r nw∧hs=B++nw:=by
 refine ar.iV (A:=[]) (L:=[aL x0 kn K,aL x1 na A,aL x2 nt T]) (Q:=Nb s kn aM aP na nt K S A T) ?_ (by simp) ?_ (Vq g0 g1 g2)
 ·refine ar.post (E6 s aM aP kn na nt ⟨x0,h0⟩ ⟨x1,h1⟩ ⟨x2,h2⟩ K S A T hK hS hA hT j_ jO) ?_;rintro r hs h;exact⟨_,bU.refl _,_,h,rfl⟩
 ·rintro v nw ⟨o,_,rfl⟩ h hh;simp only [adW,adP,or_false]at hh;subst hh;rfl
end Go.RX.Fm

namespace Go.RX.Fl
open Go.RX Go.Proofs Go.RX.Fe Go.RX.Fg Go.RX.Fi Go.RX.Fj Go.RX.Fk
noncomputable def cx:Ctx:={T:=TT,FT:=FT,loops:=Fl.loops,cb:=Fl.cb}
set_option maxRecDepth 100000
def AW(ax:PT)(x0:Int):Prop:=
 ∀(_:Nat) (v0:V1),∃(bN:Ext→Prop) (bY:Ext→Nat),(∃(v1:V1) (x1 x2:Int) (A0:Nat→Int),x1=(ae .u64 (ak .quo .u64 x0 256))∧v1=v0∧v1=v0∧x2=1∧(∀j,j<(ag x2)→A0 j=(fun _=>(ae .u8 (ak .rem .u64 x0 256))) j)∧bN ⟨[],[v1],[x1,x2],[A0],[],[],[]⟩)∧
 ∀(v1:V1) (x1 x2:Int) (A0:Nat→Int),bN ⟨[],[v1],[x1,x2],[A0],[],[],[]⟩→
 aZ (0<x1) (
 ∀_:Nat,aw (0≤x2) (
 aw (0≤x2) (
 fx (1+x2) (
 ∀v2:V1,∃(wk:V1) (gM gQ:Int) (wN:Nat→Int),gM=(ae .u64 (ak .quo .u64 x1 256))∧wk=v2∧wk=v2∧gQ=(1+x2)∧(∀j,j<(ag gQ)→wN j=(aA (fun _=>(ae .u8 (ak .rem .u64 x1 256))) 1 (ag x2) A0) j)∧bN ⟨[],[wk],[gM,gQ],[wN],[],[],[]⟩∧bY ⟨[],[wk],[gM,gQ],[wN],[],[],[]⟩<bY ⟨[],[v1],[x1,x2],[A0],[],[],[]⟩)))) (
 ax (v1.v) [bo v1 x2 A0])
theorem Ko(ax:PT)(x0:Int)(h:AW ax x0):ar adE 21 [.int .u64 x0] [] ax:=
 s5 (C:=Fl.cx) [.int .u64 (.var 0)] [] ⟨0,0,1,0,0,0,0⟩ ⟨[x0],[],[],[],[],[],[],[]⟩ 0 3 Try.func21 (by kernel_rfl) h
def IF(ax:PT)(x0 x1:Int):Prop:=
 ∀_:Nat,Cl 21 [.int .u64 x0] [] fun x hs _=> ∃(v0:V1) (x2:Int) (A0:Nat→Int),x=v0.v∧hs=[bo v0 x2 A0]∧
 Cl 21 [.int .u64 x1] [] fun x hs _=> ∃(v1:V1) (x3:Int) (A1:Nat→Int),x=v1.v∧hs=[bo v1 x3 A1]∧
 aZ (x0<8) (
 eJ x0 ((
 eJ (16*x0) ((
 aZ (x1<8) (
 eJ x1 ((
 eJ ((16*x0)+x1) ((
 ∀(_:Nat) (_ v3:V1),ax (v3.v) [bn true v3 1 (aA (aA (fun _=>(ae .u8 ((16*x0)+x1))) 1 0 (fun _=>0)) 1 0 (fun _=>0))]))))) (
 eJ ((16*x0)+8) ((
 aw (0≤x3) (
 eJ (((16*x0)+8)+x3) ((
 eJ ((((16*x0)+8)+x3) - 1) ((
 ∀(_:Nat) (_:V1),fx (1+x3) (
 ∀v3:V1,ax (v3.v) [bo v3 (1+x3) (aA (aA (fun _=>(ae .u8 ((((16*x0)+8)+x3) - 1))) 1 0 (fun _=>0)) 1 (ag x3) A1)])))))))))))))) (
 aw (0≤x2) (
 eJ (8+x2) ((
 eJ ((8+x2) - 1) ((
 eJ (16*((8+x2) - 1)) ((
 aZ (x1<8) (
 eJ x1 ((
 eJ ((16*((8+x2) - 1))+x1) ((
 ∀_:Nat,fx (1+x2) (
 ∀_:V1,aw (0≤(1+x2)) (
 ∀v3:V1,ax (v3.v) [bo v3 (1+x2) (aA (aA (fun _=>(ae .u8 ((16*((8+x2) - 1))+x1))) 1 (ag x2) A0) (ag (1+x2)) 0 (fun _=>0))]))))))) (
 eJ ((16*((8+x2) - 1))+8) ((
 aw (0≤x3) (
 eJ (((16*((8+x2) - 1))+8)+x3) ((
 eJ ((((16*((8+x2) - 1))+8)+x3) - 1) ((
 ∀_:Nat,fx (1+x2) (
 ∀_:V1,aw (0≤(1+x2)) (
 fx ((1+x2)+x3) (
 ∀v3:V1,ax (v3.v) [bo v3 ((1+x2)+x3) (aA (aA (fun _=>(ae .u8 ((((16*((8+x2) - 1))+8)+x3) - 1))) 1 (ag x2) A0) (ag (1+x2)) (ag x3) A1)])))))))))))))))))))
theorem Qk(ax:PT)(x0 x1:Int)(h:IF ax x0 x1):ar adE 9 [.agg #[.int .u64 x0,.int .u64 x1]] [] ax:=
 s5 (C:=Fl.cx) [.agg [.int .u64 (.var 0),.int .u64 (.var 1)]] [] ⟨0,0,2,0,0,0,0⟩ ⟨[x0,x1],[],[],[],[],[],[],[]⟩ 0 1 Try.func9 (by kernel_rfl) h
open Go Go.RX Go.Proofs Go.RX.Sh Go.RX.Fg Go.RX.Fi Go.RX.Fj Go.RX.Fk Go.Hd Go.Gh Go.Gc Go.Ae Go.RX.Fe Go.Se
theorem oa{t:Nat}:bU [] [au true t 1 (.slice none 0 0) 0 []]:=by
 intro w Fs o;refine bG.add (a:=[]) o _ (fun _=>False) (Nat.le_refl _) (fun _ _=>rfl) ⟨?_,fun k=>by simp [Value.ownBlock]⟩ fun _ h=>h.elim
 simp only [if_true];exact js w t 1
theorem VA{m:Nat}(h:m<2^64):ae .u64 (ak .quo .u64 (m:Int) 256)=((m/256:Nat):Int):=by
 have e:ak .quo .u64 (m:Int) 256=((m/256:Nat):Int):=rfl;rw [e,Co (Nat.lt_of_le_of_lt (Nat.div_le_self _ _) h)]
theorem VB(m:Nat):ae .u8 (ak .rem .u64 (m:Int) 256)=((m%256:Nat):Int):=by
 have e:ak .rem .u64 (m:Int) 256=((m%256:Nat):Int):=rfl;rw [e,wrap_u8];congr 1;omega
def Nf(s j:Nat):Nat:=if j=0 then qM s else if j=1 then db s else if j=2 then yH s else if j=3 then bw s else pK s
end Go.RX.Fl
