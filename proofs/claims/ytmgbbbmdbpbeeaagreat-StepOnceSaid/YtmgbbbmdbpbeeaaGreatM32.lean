/- Opening a frame. -/
import Derived.Test.YtmgbbbmdbpbeeaaGreatM31
open Classical renaming not_not → ai4
open Go.Proofs.Tryz renaming prog → aiT
open Int renaming toNat → ag
open List renaming append → aiL, mem_cons → ai0, not_mem_nil → aiZ
open Nat renaming mod_eq_of_lt → ajm
namespace Go.RX.Fm
open Go Go.RX Go.Proofs Go.RX.Sh Go.RX.Fg Go.RX.Fi Go.RX.Fj Go.RX.Fk Go.Hd Go.Gh Go.Gc Go.Ae Go.RX.Fe Go.Se
theorem wE{B:List HP}{x0 x1 x2:Value}(s:Nat)(h0:x0.oneCell'=true)(h1:x1.oneCell'=true)(h2:x2.oneCell'=true)(kn:Nat)(hk:kn=4*ug s)(K N A T:Nat→Nat)(hK: ∀j,K j<256)(hN: ∀j,N j<256)(hA: ∀j,A j<256)(hT: ∀j,T j<256)(n1 m:Nat)(hl:n1+m+100≤140737488355328)
  (EX:ar B (aH x0 kn K)) (Ca:ar B (aH x1 n1 A)) (AU:ar B (aH x2 m T)):
  ax aiT 59 [x0,eW N,x1,x2] B fun r hs=> ∃(o:V1) (L:Nat) (c:Int),r= .tuple #[o.v,.int .i64 c]∧hs=B++[aq true o L (d_ (ug s) K N T)]∧((opens (ug s) K N n1 A m T∧L=m - 16∧c=0)∨(¬opens (ug s) K N n1 A m T∧L=0∧c=140)):=by
 have h:ax aiT 59 [x0,eW N,x1,x2] B fun r hs=> ∃nw,qd (ug s) K N n1 A m T r nw∧hs=B++nw:=by
  by_cases c5:s=5
  ·have e8:ug s=8:=by unfold ug;rw [if_pos c5]
   rw [e8]at hk ⊢;subst hk;exact Az h0 h1 h2 K N A T hK hN hA hT n1 m hl EX Ca AU
  ·have e8:ug s=4:=by unfold ug;rw [if_neg c5]
   rw [e8]at hk ⊢;subst hk;exact Av h0 h1 h2 K N A T hK hN hA hT n1 m hl EX Ca AU
 refine ax.post h ?_;rintro r hs ⟨nw,⟨ho,o,rfl,rfl⟩ | ⟨ho,rfl,rfl⟩,rfl⟩
 ·exact⟨_,bL.refl _,o,m - 16,0,rfl,rfl,.inl ⟨ho,rfl,rfl⟩⟩
 ·exact⟨_,bL.front (A:=B) (bL.mO (t:=5)),⟨.slice none 0 0,rfl⟩,0,140,rfl,rfl,.inr ⟨ho,rfl,rfl⟩⟩
def Pq(s kn aY na m:Nat)(K S A F:Nat→Nat)(r:Value)(hs:List HP):Prop:=
 ∃o:V1,r= .tuple #[o.v,.int .u64 (F2 s kn aY K S na A m F:Nat),.int .i64 (fT s kn aY K S na A m F:Nat)]∧hs=[aq true o (F1 s kn aY K S na A m F) (wD s K S F)]
set_option maxHeartbeats 4000000 in
theorem F4(s aY kn na m:Nat)(v0 v1 v2:V1)(K S A F:Nat→Nat)(hK: ∀j,K j<256)(hS: ∀j,S j<256)(hA: ∀j,A j<256)(hF: ∀j,F j<256)(hm:m≤9223372036854775807):
  ax aiT 10 [.agg (.int .u16 (s:Int):: .int .u64 (aY:Int)::v0.v::(aiL (aj .u8 12 fun j=>((S j:Nat):Int)) [])).toArray,v1.v,v2.v] [aq false v0 kn K,aq false v1 na A,aq false v2 m F] (Pq s kn aY na m K S A F):=by
 refine ax.post (p:=fun r hs=>(fT s kn aY K S na A m F≠0∧r= .tuple #[.slice none 0 0,.int .u64 0,.int .i64 (fT s kn aY K S na A m F:Nat)])∨(fT s kn aY K S na A m F=0∧∃o:V1,r= .tuple #[o.v,.int .u64 (aZ F:Nat),.int .i64 0]∧hs=[aq true o (m - hlen F - bA s) (wD s K S F)])) ?_ ?_;rotate_left
 ·rintro r hs (⟨h,rfl⟩ | ⟨h,o,rfl,rfl⟩)
  ·refine⟨_,bL.trans (bL.sub (List.nil_sublist _)) (bL.mO (t:=5)),⟨.slice none 0 0,rfl⟩,?_,?_⟩
   ·unfold F2;rw [if_neg h];rfl
   ·unfold F1;rw [if_neg h];rfl
  ·refine⟨_,bL.refl _,o,?_,?_⟩
   ·unfold F2;rw [if_pos h,h];rfl
   ·unfold F1;rw [if_pos h]
 refine Mx _ (s:Int) (aY:Int) (kn:Int) (na:Int) (m:Int) (fun j=>(K j:Nat)) (fun j=>(S j:Nat)) (fun j=>(A j:Nat)) (fun j=>(F j:Nat)) v0 v1 v2 ?_;unfold Dr;intro b0 b1 b2;refine⟨_,wC s,?_⟩;rintro x hs ⟨⟨gQ,rfl⟩ | ⟨gQ,rfl⟩,rfl⟩;rotate_left
 ·refine⟨0,0,0,0,0,130,rfl,rfl,?_⟩;intro b3;have:fT s kn aY K S na A m F=130:=by unfold fT;rw [if_pos gQ]
  refine⟨fun _ b4=> .inl ⟨?_,?_⟩,fun h=>absurd h (by decide)⟩
  ·rw [this];decide
  ·rw [this];rfl
 refine⟨(jP s:Nat),(dH s:Nat),(FQ s:Nat),(bA s:Nat),(ey s:Nat),0,rfl,rfl,?_⟩;intro b3;have VI: ¬¬oU s:=ai4.2 gQ;refine⟨fun h=>absurd rfl h,fun _=>⟨by omega,fun _=>⟨fun hk b4=> .inl ?_,fun hk=>⟨by omega,fun _=>⟨fun h3 b4=> .inl ?_,fun h3 b4=>?_⟩⟩⟩⟩⟩
 ·have:fT s kn aY K S na A m F=2:=by unfold fT;rw [if_neg VI,if_pos (by omega)]
  exact⟨by rw [this];decide,by rw [this];rfl⟩
 ·have:fT s kn aY K S na A m F=3:=by unfold fT;rw [if_neg VI,if_neg (by omega),if_pos (by omega)]
  exact⟨by rw [this];decide,by rw [this];rfl⟩
 have yz:kn=dH s:=by omega
 have zU:bA s≤16:=by
  rcases gQ with h | h | h | h | h<;>subst h<;>decide
 refine⟨_,sh v2.one m F hF (B:=[aq false v2 m F]) ar.view,?_⟩;rintro x hs ⟨⟨hh,rfl⟩ | ⟨hh,rfl⟩,rfl⟩;rotate_left
 ·refine⟨0,0,0,9,rfl,rfl,?_⟩;intro b5;have:fT s kn aY K S na A m F=9:=by unfold fT;rw [if_neg VI,if_neg (by omega),if_neg (by omega),if_pos hh]
  refine⟨fun _=> .inl ⟨?_,?_⟩,fun h=>absurd h (by decide)⟩
  ·rw [this];decide
  ·rw [this];rfl
 refine⟨(bV F:Nat),(aZ F:Nat),(hlen F:Nat),0,rfl,rfl,?_⟩;intro b5;have nhh: ¬¬qk m F:=ai4.2 hh;have Tq:hlen F≤m:=hh.1;have hhl:=Sm hF;refine⟨fun h=>absurd rfl h,fun _=>⟨fun Po=> .inl ?_,fun Po=>⟨by omega,fun _=>⟨by omega,fun _=>⟨by omega,fun _=>⟨by omega,fun _=>⟨by omega,fun _=>⟨fun h5=> .inl ?_,fun h5=>⟨by omega,fun _=>⟨by omega,fun _=>?_⟩⟩⟩⟩⟩⟩⟩⟩⟩⟩
 ·have:fT s kn aY K S na A m F=4:=by unfold fT;rw [if_neg VI,if_neg (by omega),if_neg (by omega),if_neg nhh,if_pos (by omega)]
  exact⟨by rw [this];decide,by rw [this];rfl⟩
 ·have:fT s kn aY K S na A m F=3:=by unfold fT;rw [if_neg VI,if_neg (by omega),if_neg (by omega),if_neg nhh,if_neg (by omega),if_pos (by omega)]
  exact⟨by rw [this];decide,by rw [this];rfl⟩
 have F5: ¬j7 s K S na A m F→fT s kn aY K S na A m F=140:=fun h=>by
  unfold fT;rw [if_neg VI,if_neg (by omega),if_neg (by omega),if_neg nhh,if_neg (by omega),if_neg (by omega),if_neg h]
 have JW:j7 s K S na A m F→fT s kn aY K S na A m F=0:=fun h=>by
  unfold fT;rw [if_neg VI,if_neg (by omega),if_neg (by omega),if_neg nhh,if_neg (by omega),if_neg (by omega),if_pos h]
 have L8:=CW hF;have hN:=u6 hS (aZ F);have TU:=VF hF hA;have TV: ∀j,cD F j<256:=fun j=>hF _
 have wV:=fun(v0:V1)=>wA s aY (aZ F) v0 S hS L8
 have tm:ag (m:Int)=m:=rfl;have th:ag ((hlen F:Nat):Int)=hlen F:=rfl;have bt:ar [aq false v2 m F] (aH (aC 1 v2.v (hlen F) m none) (m - hlen F) (cD F)):=ar.part (lo:=hlen F) (hi:=m) (mx:=none) (ar.view (v:=v2) (n:=m) (T:=F)) Tq (Nat.le_refl _) (by simp);have bh:ar [aq false v2 m F] (aH (aC 1 v2.v 0 (hlen F) none) (hlen F) F):=by
  have:=ar.part (lo:=0) (hi:=hlen F) (mx:=none) (ar.view (v:=v2) (n:=m) (T:=F)) (by omega) Tq (by simp);rw [Nat.sub_zero]at this;simp only [Nat.zero_add]at this;exact this
 refine⟨fun b6 b7 b8=>?_,fun b6 b7 b8 b9=>?_⟩
 ·refine⟨fun hg b9=>?_,fun hg=>?_⟩
  ·have rI:4≤s:=by
    rcases gQ with h | h | h | h | h<;>subst h<;>first | (exact absurd hg (by decide)) | decide
   have BC:kn=4*ug s:=by
    rw [yz];rcases gQ with h | h | h | h | h<;>subst h<;>first | (exact absurd rI (by decide)) | rfl
   have Pp:bA s=16:=by
    rcases gQ with h | h | h | h | h<;>subst h<;>first | (exact absurd rI (by decide)) | rfl
   refine⟨_,fX (B:=[aq false v2 m F,aq false v1 na A]) b9 (aX ..) v1.one (hlen F) na F A (by omega) (ar.left (C:=[aq false v1 na A]) bh) (ar.get 1 rfl),?_⟩;rintro x hs ⟨v3,rfl,rfl⟩;refine⟨v3,(hlen F+na:Nat),fun j=>(rh F A j:Nat),rfl,rfl,?_⟩;refine⟨_,wV v0,?_⟩;rintro x hs ⟨rfl,rfl⟩;refine⟨fun j=>(bu S (aZ F) j:Nat),rfl,rfl,?_⟩;refine⟨_,wE (B:=[aq false v0 kn K,aq true v3 (hlen F+na) (rh F A),aq false v2 m F]) s v0.one v3.one (aX ..) kn BC K (bu S (aZ F)) (rh F A) (cD F) hK hN TU TV (hlen F+na) (m - hlen F) (by omega) (ar.get 0 rfl) (ar.get 1 rfl) (ar.right (A:=[aq false v0 kn K,aq true v3 (hlen F+na) (rh F A)]) bt),?_⟩;rintro x hs ⟨v4,gL,gc,rfl,rfl,ho⟩;refine⟨v4,(gL:Int),gc,fun j=>(d_ (ug s) K (bu S (aZ F)) (cD F) j:Nat),rfl,rfl,?_⟩;have tX:opens (ug s) K (bu S (aZ F)) (hlen F+na) (rh F A) (m - hlen F) (cD F)↔j7 s K S na A m F:=(F0 gQ rI _ _ _ _ _ _).symm;rcases ho with⟨ho,rfl,rfl⟩ | ⟨ho,rfl,rfl⟩
   ·refine⟨fun h=>absurd rfl h,fun _=> .inr ⟨JW (tX.1 ho),v4,rfl,?_⟩⟩;unfold wD jb;rw [if_pos rI,Pp];rfl
   ·have:=F5 fun h=>ho (tX.2 h)
    exact⟨fun _=> .inl ⟨by rw [this];decide,by rw [this];rfl⟩,fun h=>absurd h (by decide)⟩
  ·have rI: ¬4≤s:=by
    rcases gQ with h | h | h | h | h<;>subst h<;>first | (exact absurd rfl hg) | decide
   have VH:FQ s=16:=by
    rcases gQ with h | h | h | h | h<;>subst h<;>first | (exact absurd (by decide) rI) | rfl
   have Y6:dH s=48:=by
    rcases gQ with h | h | h | h | h<;>subst h<;>first | (exact absurd (by decide) rI) | rfl
   have eh:jP s=1:=by
    rcases gQ with h | h | h | h | h<;>subst h<;>first | (exact absurd (by decide) rI) | rfl
   rw [VH,eh];have Y7:kn=48:=by rw [yz,Y6]
   refine⟨by omega,fun _=>⟨by omega,fun _=>?_⟩⟩;have Y8:ar [aq false v0 kn K] (aH (aC 1 v0.v 0 16 none) 16 K):=by
    have:=ar.part (lo:=0) (hi:=16) (mx:=none) (ar.view (v:=v0) (n:=kn) (T:=K)) (by decide) (by omega) (by simp);simp only [Nat.zero_add]at this;exact this
   refine⟨_,ql (B:=[aq false v0 kn K]) (aX ..) K hK Y8,?_⟩;rintro x hs ⟨bc,v3,rfl,rfl⟩;refine⟨bc,v3,(4*(4+7):Nat),fun j=>(sb j:Nat),cw 4 K,rfl,rfl,?_⟩;intro Qd ZW S6 Qe;refine⟨_,fX (B:=[aq false v2 m F,aq false v1 na A]) Qe (aX ..) v1.one (hlen F) na F A (by omega) (ar.left (C:=[aq false v1 na A]) bh) (ar.get 1 rfl),?_⟩;rintro x hs ⟨v4,rfl,rfl⟩;refine⟨v4,(hlen F+na:Nat),fun j=>(rh F A j:Nat),rfl,rfl,?_⟩;by_cases sA:m - hlen F<bA s
   ·have Dj: ¬j7 s K S na A m F:=fun h=>by have:=h.1;omega
    have:=F5 Dj
    iterate 12 refine⟨by omega,fun _=>?_⟩
    refine⟨fun h=>by omega,fun _=> .inl ?_⟩;exact⟨by rw [this];decide,by rw [this];rfl⟩
   have e1:(m:Int) - ((hlen F:Nat):Int)=((m - hlen F:Nat):Int):=by omega
   rw [e1];have e2:((m - hlen F:Nat):Int) - ((bA s:Nat):Int)=((m - hlen F - bA s:Nat):Int):=by omega
   rw [e2];have hd:(decide (((m - hlen F - bA s:Nat):Int)<0))=false:=decide_eq_false (by omega);rw [hd]
   iterate 12 refine⟨by omega,fun _=>?_⟩
   refine⟨fun _=>?_,fun h=>by omega⟩;have hbx: ∀j,j<m - hlen F - bA s→cD F (0+j)=cD F j:=fun j _=>by rw [Nat.zero_add]
   have bx:ar [aq false v2 m F] (aH (aC 1 (aC 1 v2.v (hlen F) m none) 0 (m - hlen F - bA s) none) (m - hlen F - bA s) (cD F)):=by
    have:=ar.part (lo:=0) (hi:=m - hlen F - bA s) (mx:=none) bt (by omega) (by omega) (by simp);rw [Nat.sub_zero,oK hbx]at this;exact this
   have bg:ar [aq false v2 m F] (aH (aC 1 (aC 1 v2.v (hlen F) m none) (m - hlen F - bA s) (m - hlen F) none) (bA s) fun j=>cD F (m - hlen F - bA s+j)):=by
    have:=ar.part (lo:=m - hlen F - bA s) (hi:=m - hlen F) (mx:=none) bt (by omega) (by omega) (by simp);rw [show m - hlen F - (m - hlen F - bA s)=bA s by omega]at this;exact this
   refine⟨_,wV v0,?_⟩;rintro x hs ⟨rfl,rfl⟩;refine⟨fun j=>(bu S (aZ F) j:Nat),rfl,rfl,?_⟩;intro Mk
   iterate 4 refine⟨by omega,fun _=>?_⟩
   refine⟨_,jA (hlen F+na),?_⟩;rintro x hs ⟨v5,rfl,rfl⟩;refine⟨v5,fun j=>(fi (hlen F+na) j:Nat),rfl,rfl,?_⟩;refine⟨_,jA (m - hlen F - bA s),?_⟩;rintro x hs ⟨v6,rfl,rfl⟩;refine⟨v6,fun j=>(fi (m - hlen F - bA s) j:Nat),rfl,rfl,?_⟩;refine⟨_,jA (bA s),?_⟩;rintro x hs ⟨v7,rfl,rfl⟩;refine⟨v7,fun j=>(fi (bA s) j:Nat),rfl,rfl,?_⟩;intro bm;have t48:ag (kn:Int)=48:=by omega
   dsimp only [bo,bi,bn];rw [t48];refine⟨_,sj bm Mk v0 K hK false v5 v6 v7 v4 (aC 1 (aC 1 v2.v (hlen F) m none) 0 (m - hlen F - bA s) none) (aX ..) v2 m F s (bu S (aZ F)) (hlen F+na) (rh F A) (m - hlen F - bA s) (cD F) hN TU TV (by omega) bx,?_⟩;rintro x hs ⟨v8,rfl,rfl⟩;refine⟨v8,(32:Nat),fun j=>(gO s K (bu S (aZ F)) (hlen F+na) (rh F A) (m - hlen F - bA s) (cD F) j:Nat),rfl,rfl,?_⟩;have bs:ar [aq true v8 32 (gO s K (bu S (aZ F)) (hlen F+na) (rh F A) (m - hlen F - bA s) (cD F)),aq false v2 m F] (aH (aC 1 v8.v 0 (bA s) none) (bA s) (gO s K (bu S (aZ F)) (hlen F+na) (rh F A) (m - hlen F - bA s) (cD F))):=by
    have:=ar.part (lo:=0) (hi:=bA s) (mx:=none) (ar.bytes (v:=v8) (n:=32) (T:=gO s K (bu S (aZ F)) (hlen F+na) (rh F A) (m - hlen F - bA s) (cD F))) (by omega) (by omega) (by simp);rw [Nat.sub_zero]at this;simp only [Nat.zero_add]at this;exact ar.left (C:=[aq false v2 m F]) this
   refine⟨by omega,fun _=>⟨by omega,fun _=>?_⟩⟩;refine⟨_,oM (B:=[aq true v8 32 (gO s K (bu S (aZ F)) (hlen F+na) (rh F A) (m - hlen F - bA s) (cD F)),aq false v2 m F]) (x1:=aC 1 v8.v 0 (bA s) none) (x2:=aC 1 (aC 1 v2.v (hlen F) m none) (m - hlen F - bA s) (m - hlen F) none) (aX ..) (aX ..) (bA s) (bA s) (gO s K (bu S (aZ F)) (hlen F+na) (rh F A) (m - hlen F - bA s) (cD F)) (fun j=>cD F (m - hlen F - bA s+j)) (zE _ _ _ _ _ _ _) (fun j=>TV _) (by omega) bs (ar.right (A:=[aq true v8 32 (gO s K (bu S (aZ F)) (hlen F+na) (rh F A) (m - hlen F - bA s) (cD F))]) bg),?_⟩;rintro x hs ⟨rfl,rfl⟩;refine⟨_,rfl,rfl,?_⟩;have tX:nQ (bA s) (bA s) (gO s K (bu S (aZ F)) (hlen F+na) (rh F A) (m - hlen F - bA s) (cD F)) (fun j=>cD F (m - hlen F - bA s+j))=true↔j7 s K S na A m F:=by
    unfold nQ j7 L5;rw [decide_eq_true_iff,if_neg rI];exact⟨fun h=>⟨by omega,h.2⟩,fun h=>⟨rfl,h.2⟩⟩
   refine⟨fun dI=> .inl ?_,fun heq=>?_⟩
   ·have:=F5 fun h=>dI (tX.2 h)
    exact⟨by rw [this];decide,by rw [this];rfl⟩
   have VJ:=tX.1 (ai4.1 heq);intro S7;refine⟨_,wV v0,?_⟩;rintro x hs ⟨rfl,rfl⟩;refine⟨fun j=>(bu S (aZ F) j:Nat),rfl,rfl,?_⟩;intro Mm Dd;rw [si];have hC:=jy hN (c:=0) (by decide);refine⟨_,gM (B:=[aq false v2 m F]) (x:=aC 1 (aC 1 v2.v (hlen F) m none) 0 (m - hlen F - bA s) none) (aX ..) bc Dd v3 4 (by decide) (by decide) K (eP (bu S (aZ F)) 0) (cD F) hK hC TV (m - hlen F - bA s) (by omega) bx,?_⟩;rintro x hs ⟨v9,rfl,rfl⟩;refine⟨v9,(m - hlen F - bA s:Nat),fun j=>(eZ 4 K (eP (bu S (aZ F)) 0) (cD F) j:Nat),rfl,rfl,?_⟩;refine .inr ⟨JW VJ,v9,rfl,?_⟩;unfold wD jb;rw [if_neg rI];rfl
 ·refine⟨fun hg=>?_,fun hg=>?_⟩
  ·have rI:4≤s:=by
    rcases gQ with h | h | h | h | h<;>subst h<;>first | (exact absurd hg (by decide)) | decide
   have BC:kn=4*ug s:=by
    rw [yz];rcases gQ with h | h | h | h | h<;>subst h<;>first | (exact absurd rI (by decide)) | rfl
   have Pp:bA s=16:=by
    rcases gQ with h | h | h | h | h<;>subst h<;>first | (exact absurd rI (by decide)) | rfl
   refine⟨_,fX (B:=[aq false v2 m F,aq false v1 na A]) b6 (aX ..) v1.one (hlen F) na F A (by omega) (ar.left (C:=[aq false v1 na A]) bh) (ar.get 1 rfl),?_⟩;rintro x hs ⟨v3,rfl,rfl⟩;refine⟨v3,(hlen F+na:Nat),fun j=>(rh F A j:Nat),rfl,rfl,?_⟩;refine⟨_,wV v0,?_⟩;rintro x hs ⟨rfl,rfl⟩;refine⟨fun j=>(bu S (aZ F) j:Nat),rfl,rfl,?_⟩;refine⟨_,wE (B:=[aq false v0 kn K,aq true v3 (hlen F+na) (rh F A),aq false v2 m F]) s v0.one v3.one (aX ..) kn BC K (bu S (aZ F)) (rh F A) (cD F) hK hN TU TV (hlen F+na) (m - hlen F) (by omega) (ar.get 0 rfl) (ar.get 1 rfl) (ar.right (A:=[aq false v0 kn K,aq true v3 (hlen F+na) (rh F A)]) bt),?_⟩;rintro x hs ⟨v4,gL,gc,rfl,rfl,ho⟩;refine⟨v4,(gL:Int),gc,fun j=>(d_ (ug s) K (bu S (aZ F)) (cD F) j:Nat),rfl,rfl,?_⟩;have tX:opens (ug s) K (bu S (aZ F)) (hlen F+na) (rh F A) (m - hlen F) (cD F)↔j7 s K S na A m F:=(F0 gQ rI _ _ _ _ _ _).symm;rcases ho with⟨ho,rfl,rfl⟩ | ⟨ho,rfl,rfl⟩
   ·refine⟨fun h=>absurd rfl h,fun _=> .inr ⟨JW (tX.1 ho),v4,rfl,?_⟩⟩;unfold wD jb;rw [if_pos rI,Pp];rfl
   ·have:=F5 fun h=>ho (tX.2 h)
    exact⟨fun _=> .inl ⟨by rw [this];decide,by rw [this];rfl⟩,fun h=>absurd h (by decide)⟩
  ·have rI: ¬4≤s:=by
    rcases gQ with h | h | h | h | h<;>subst h<;>first | (exact absurd rfl hg) | decide
   have VH:FQ s=16:=by
    rcases gQ with h | h | h | h | h<;>subst h<;>first | (exact absurd (by decide) rI) | rfl
   have Y6:dH s=48:=by
    rcases gQ with h | h | h | h | h<;>subst h<;>first | (exact absurd (by decide) rI) | rfl
   have eh:jP s=1:=by
    rcases gQ with h | h | h | h | h<;>subst h<;>first | (exact absurd (by decide) rI) | rfl
   rw [VH,eh];have Y7:kn=48:=by rw [yz,Y6]
   refine⟨by omega,fun _=>⟨by omega,fun _=>?_⟩⟩;have Y8:ar [aq false v0 kn K] (aH (aC 1 v0.v 0 16 none) 16 K):=by
    have:=ar.part (lo:=0) (hi:=16) (mx:=none) (ar.view (v:=v0) (n:=kn) (T:=K)) (by decide) (by omega) (by simp);simp only [Nat.zero_add]at this;exact this
   refine⟨_,ql (B:=[aq false v0 kn K]) (aX ..) K hK Y8,?_⟩;rintro x hs ⟨bc,v3,rfl,rfl⟩;refine⟨bc,v3,(4*(4+7):Nat),fun j=>(sb j:Nat),cw 4 K,rfl,rfl,?_⟩;intro ZW S6 Qe;refine⟨_,fX (B:=[aq false v2 m F,aq false v1 na A]) b6 (aX ..) v1.one (hlen F) na F A (by omega) (ar.left (C:=[aq false v1 na A]) bh) (ar.get 1 rfl),?_⟩;rintro x hs ⟨v4,rfl,rfl⟩;refine⟨v4,(hlen F+na:Nat),fun j=>(rh F A j:Nat),rfl,rfl,?_⟩;by_cases sA:m - hlen F<bA s
   ·have Dj: ¬j7 s K S na A m F:=fun h=>by have:=h.1;omega
    have:=F5 Dj
    iterate 12 refine⟨by omega,fun _=>?_⟩
    refine⟨fun h=>by omega,fun _=> .inl ?_⟩;exact⟨by rw [this];decide,by rw [this];rfl⟩
   have e1:(m:Int) - ((hlen F:Nat):Int)=((m - hlen F:Nat):Int):=by omega
   rw [e1];have e2:((m - hlen F:Nat):Int) - ((bA s:Nat):Int)=((m - hlen F - bA s:Nat):Int):=by omega
   rw [e2];have hd:(decide (((m - hlen F - bA s:Nat):Int)<0))=false:=decide_eq_false (by omega);rw [hd]
   iterate 12 refine⟨by omega,fun _=>?_⟩
   refine⟨fun _=>?_,fun h=>by omega⟩;have hbx: ∀j,j<m - hlen F - bA s→cD F (0+j)=cD F j:=fun j _=>by rw [Nat.zero_add]
   have bx:ar [aq false v2 m F] (aH (aC 1 (aC 1 v2.v (hlen F) m none) 0 (m - hlen F - bA s) none) (m - hlen F - bA s) (cD F)):=by
    have:=ar.part (lo:=0) (hi:=m - hlen F - bA s) (mx:=none) bt (by omega) (by omega) (by simp);rw [Nat.sub_zero,oK hbx]at this;exact this
   have bg:ar [aq false v2 m F] (aH (aC 1 (aC 1 v2.v (hlen F) m none) (m - hlen F - bA s) (m - hlen F) none) (bA s) fun j=>cD F (m - hlen F - bA s+j)):=by
    have:=ar.part (lo:=m - hlen F - bA s) (hi:=m - hlen F) (mx:=none) bt (by omega) (by omega) (by simp);rw [show m - hlen F - (m - hlen F - bA s)=bA s by omega]at this;exact this
   refine⟨_,wV v0,?_⟩;rintro x hs ⟨rfl,rfl⟩;refine⟨fun j=>(bu S (aZ F) j:Nat),rfl,rfl,?_⟩;intro Mk
   iterate 4 refine⟨by omega,fun _=>?_⟩
   refine⟨_,jA (hlen F+na),?_⟩;rintro x hs ⟨v5,rfl,rfl⟩;refine⟨v5,fun j=>(fi (hlen F+na) j:Nat),rfl,rfl,?_⟩;refine⟨_,jA (m - hlen F - bA s),?_⟩;rintro x hs ⟨v6,rfl,rfl⟩;refine⟨v6,fun j=>(fi (m - hlen F - bA s) j:Nat),rfl,rfl,?_⟩;refine⟨_,jA (bA s),?_⟩;rintro x hs ⟨v7,rfl,rfl⟩;refine⟨v7,fun j=>(fi (bA s) j:Nat),rfl,rfl,?_⟩;intro bm;have t48:ag (kn:Int)=48:=by omega
   dsimp only [bo,bi,bn];rw [t48];refine⟨_,sj bm Mk v0 K hK false v5 v6 v7 v4 (aC 1 (aC 1 v2.v (hlen F) m none) 0 (m - hlen F - bA s) none) (aX ..) v2 m F s (bu S (aZ F)) (hlen F+na) (rh F A) (m - hlen F - bA s) (cD F) hN TU TV (by omega) bx,?_⟩;rintro x hs ⟨v8,rfl,rfl⟩;refine⟨v8,(32:Nat),fun j=>(gO s K (bu S (aZ F)) (hlen F+na) (rh F A) (m - hlen F - bA s) (cD F) j:Nat),rfl,rfl,?_⟩;have bs:ar [aq true v8 32 (gO s K (bu S (aZ F)) (hlen F+na) (rh F A) (m - hlen F - bA s) (cD F)),aq false v2 m F] (aH (aC 1 v8.v 0 (bA s) none) (bA s) (gO s K (bu S (aZ F)) (hlen F+na) (rh F A) (m - hlen F - bA s) (cD F))):=by
    have:=ar.part (lo:=0) (hi:=bA s) (mx:=none) (ar.bytes (v:=v8) (n:=32) (T:=gO s K (bu S (aZ F)) (hlen F+na) (rh F A) (m - hlen F - bA s) (cD F))) (by omega) (by omega) (by simp);rw [Nat.sub_zero]at this;simp only [Nat.zero_add]at this;exact ar.left (C:=[aq false v2 m F]) this
   refine⟨by omega,fun _=>⟨by omega,fun _=>?_⟩⟩;refine⟨_,oM (B:=[aq true v8 32 (gO s K (bu S (aZ F)) (hlen F+na) (rh F A) (m - hlen F - bA s) (cD F)),aq false v2 m F]) (x1:=aC 1 v8.v 0 (bA s) none) (x2:=aC 1 (aC 1 v2.v (hlen F) m none) (m - hlen F - bA s) (m - hlen F) none) (aX ..) (aX ..) (bA s) (bA s) (gO s K (bu S (aZ F)) (hlen F+na) (rh F A) (m - hlen F - bA s) (cD F)) (fun j=>cD F (m - hlen F - bA s+j)) (zE _ _ _ _ _ _ _) (fun j=>TV _) (by omega) bs (ar.right (A:=[aq true v8 32 (gO s K (bu S (aZ F)) (hlen F+na) (rh F A) (m - hlen F - bA s) (cD F))]) bg),?_⟩;rintro x hs ⟨rfl,rfl⟩;refine⟨_,rfl,rfl,?_⟩;have tX:nQ (bA s) (bA s) (gO s K (bu S (aZ F)) (hlen F+na) (rh F A) (m - hlen F - bA s) (cD F)) (fun j=>cD F (m - hlen F - bA s+j))=true↔j7 s K S na A m F:=by
    unfold nQ j7 L5;rw [decide_eq_true_iff,if_neg rI];exact⟨fun h=>⟨by omega,h.2⟩,fun h=>⟨rfl,h.2⟩⟩
   refine⟨fun dI=> .inl ?_,fun heq=>?_⟩
   ·have:=F5 fun h=>dI (tX.2 h)
    exact⟨by rw [this];decide,by rw [this];rfl⟩
   have VJ:=tX.1 (ai4.1 heq);intro S7;refine⟨_,wV v0,?_⟩;rintro x hs ⟨rfl,rfl⟩;refine⟨fun j=>(bu S (aZ F) j:Nat),rfl,rfl,?_⟩;intro Mm Dd;rw [si];have hC:=jy hN (c:=0) (by decide);refine⟨_,gM (B:=[aq false v2 m F]) (x:=aC 1 (aC 1 v2.v (hlen F) m none) 0 (m - hlen F - bA s) none) (aX ..) bc Dd v3 4 (by decide) (by decide) K (eP (bu S (aZ F)) 0) (cD F) hK hC TV (m - hlen F - bA s) (by omega) bx,?_⟩;rintro x hs ⟨v9,rfl,rfl⟩;refine⟨v9,(m - hlen F - bA s:Nat),fun j=>(eZ 4 K (eP (bu S (aZ F)) 0) (cD F) j:Nat),rfl,rfl,?_⟩;refine .inr ⟨JW VJ,v9,rfl,?_⟩;unfold wD jb;rw [if_neg rI];rfl
theorem F6{B:List HP}{x0 x1 x2:Value}(h0:x0.oneCell'=true)(h1:x1.oneCell'=true)(h2:x2.oneCell'=true)(s aY kn na m:Nat)(K S A F:Nat→Nat)(hK: ∀j,K j<256)(hS: ∀j,S j<256)(hA: ∀j,A j<256)(hF: ∀j,F j<256)(hm:m≤9223372036854775807)(g0:ar B (aH x0 kn K))(g1:ar B (aH x1 na A))(g2:ar B (aH x2 m F)):
  ax aiT 10 [.agg (.int .u16 (s:Int):: .int .u64 (aY:Int)::x0::(aiL (aj .u8 12 fun j=>((S j:Nat):Int)) [])).toArray,x1,x2] B fun r hs=> ∃nw,Pq s kn aY na m K S A F r nw∧hs=B++nw:=by
 refine ax.kX (A:=[]) (L:=[aH x0 kn K,aH x1 na A,aH x2 m F]) (Q:=Pq s kn aY na m K S A F) ?_ (by simp) ?_ (OM g0 g1 g2)
 ·refine ax.post (F4 s aY kn na m ⟨x0,h0⟩ ⟨x1,h1⟩ ⟨x2,h2⟩ K S A F hK hS hA hF hm) ?_;rintro r hs h;exact⟨_,bL.refl _,_,h,rfl⟩
 ·rintro v nw ⟨o,_,rfl⟩ h hh;simp only [ai0,aiZ,or_false]at hh;subst hh;rfl
theorem F7{B:List HP}{x0 x1 x2:Value}(h0:x0.oneCell'=true)(h1:x1.oneCell'=true)(h2:x2.oneCell'=true)(s aY br kn na nt:Nat)(K S A T:Nat→Nat)(hK: ∀j,K j<256)(hS: ∀j,S j<256)(hA: ∀j,A j<256)(hT: ∀j,T j<256)(Po:aY<18446744073709551616)(L8:br<18446744073709551616)(g0:ar B (aH x0 kn K))(g1:ar B (aH x1 na A))(g2:ar B (aH x2 nt T)):
  ax aiT 8 [.agg (.int .u16 (s:Int):: .int .u64 (aY:Int)::x0::(aiL (aj .u8 12 fun j=>((S j:Nat):Int)) [])).toArray,.int .u64 (br:Int),x1,x2] B fun r hs=> ∃nw,Pn s kn aY br na nt K S A T r nw∧hs=B++nw:=by
 refine ax.kX (A:=[]) (L:=[aH x0 kn K,aH x1 na A,aH x2 nt T]) (Q:=Pn s kn aY br na nt K S A T) ?_ (by simp) ?_ (OM g0 g1 g2)
 ·refine ax.post (F3 s aY br kn na nt ⟨x0,h0⟩ ⟨x1,h1⟩ ⟨x2,h2⟩ K S A T hK hS hA hT Po L8) ?_;rintro r hs h;exact⟨_,bL.refl _,_,h,rfl⟩
 ·rintro v nw ⟨o,_,rfl⟩ h hh;simp only [ai0,aiZ,or_false]at hh;subst hh;rfl
end Go.RX.Fm

namespace Go.Hd
open Go.Gh Go.Se Go.RX.Sh
theorem BL(n:Nat)(hn:n<18446744073709551616):n<256^dg n∧(n≠0→256^(dg n - 1)≤n):=by
 by_cases h0:n=0
 ·subst h0;exact⟨by decide,fun h=>absurd rfl h⟩
 by_cases h1:n<256
 ·have:dg n=1:=by unfold dg;rw [if_neg h0,if_pos h1]
  rw [this];exact⟨by omega,fun _=>by omega⟩
 by_cases h2:n<65536
 ·have:dg n=2:=by unfold dg;rw [if_neg h0,if_neg h1,if_pos h2]
  rw [this];exact⟨by omega,fun _=>by omega⟩
 by_cases h3:n<16777216
 ·have:dg n=3:=by unfold dg;rw [if_neg h0,if_neg h1,if_neg h2,if_pos h3]
  rw [this];exact⟨by omega,fun _=>by omega⟩
 by_cases h4:n<4294967296
 ·have:dg n=4:=by unfold dg;rw [if_neg h0,if_neg h1,if_neg h2,if_neg h3,if_pos h4]
  rw [this];exact⟨by omega,fun _=>by omega⟩
 by_cases h5:n<1099511627776
 ·have:dg n=5:=by unfold dg;rw [if_neg h0,if_neg h1,if_neg h2,if_neg h3,if_neg h4,if_pos h5]
  rw [this];exact⟨by omega,fun _=>by omega⟩
 by_cases h6:n<281474976710656
 ·have:dg n=6:=by unfold dg;rw [if_neg h0,if_neg h1,if_neg h2,if_neg h3,if_neg h4,if_neg h5,if_pos h6]
  rw [this];exact⟨by omega,fun _=>by omega⟩
 by_cases h7:n<72057594037927936
 ·have:dg n=7:=by unfold dg;rw [if_neg h0,if_neg h1,if_neg h2,if_neg h3,if_neg h4,if_neg h5,if_neg h6,if_pos h7]
  rw [this];exact⟨by omega,fun _=>by omega⟩
 ·have:dg n=8:=by unfold dg;rw [if_neg h0,if_neg h1,if_neg h2,if_neg h3,if_neg h4,if_neg h5,if_neg h6,if_neg h7]
  rw [this];exact⟨by omega,fun _=>by omega⟩
theorem qU{f g:Nat→Nat}: ∀k,(∀j,j<k→f j=g j)→ni f k=ni g k
 | 0,_=>rfl
 | k+1,h=>by
  rw [ni,ni,qU k fun j hj=>h j (by omega),h k (by omega)]
theorem Ia(n:Nat): ∀k,ni (be k n) k=n%256^k
 | 0=>by rw [Nat.pow_zero,Nat.mod_one];rfl
 | k+1=>by
  have h:=Ia (n/256) k;have hc: ∀j,j<k→be (k+1) n j=be k (n/256) j:=by
   intro j hj;unfold be;rw [Nat.div_div_eq_div_mul,show k+1 - 1 - j=(k - 1 - j)+1 by omega,Nat.pow_succ,Nat.mul_comm 256]
  rw [ni,qU k hc,h];have h2:be (k+1) n k=n%256:=by
   unfold be;rw [show k+1 - 1 - k=0 by omega,Nat.pow_zero,Nat.div_one]
  rw [h2,Nat.pow_succ,Nat.mul_comm (256^k) 256,Nat.mod_mul];omega
theorem CY{n:Nat}(h8: ¬n<8):ik n=7+hb n∧hb n=dg n∧0<hb n:=by
 have:=H2 (n:=n) (by omega);unfold ik hb;rw [if_neg h8,if_neg h8];exact⟨rfl,rfl,this⟩
theorem qV{n:Nat}(h8:n<8):ik n=n:=by unfold ik;rw [if_pos h8]
theorem xZ{T:Nat→Nat}{aY br:Nat}(hk:aY<18446744073709551616)(hc:br<18446744073709551616)(h: ∀j,j<bS aY br→T j=dM aY br j):
  nk T=hb aY∧nc T=hb br∧bV T=aY∧aZ T=br:=by
 have h0:T 0=ik aY*16+ik br:=by
  rw [h 0 (by unfold bS;omega)];unfold dM;rw [if_pos rfl]
 have n1:=qj aY;have n2:=qj br;have d1:T 0/16=ik aY:=by omega
 have d2:T 0%16=ik br:=by omega
 have e1:nk T=hb aY:=by
  unfold nk;rw [d1];by_cases c:aY<8
  ·rw [qV c,if_pos c,ef c]
  ·obtain⟨a,_,b⟩:=CY c;rw [a,if_neg (by omega)];omega
 have e2:nc T=hb br:=by
  unfold nc;rw [d2];by_cases c:br<8
  ·rw [qV c,if_pos c,ef c]
  ·obtain⟨a,_,b⟩:=CY c;rw [a,if_neg (by omega)];omega
 refine⟨e1,e2,?_,?_⟩
 ·unfold bV;rw [d1];by_cases c:aY<8
  ·rw [qV c,if_pos c]
  ·obtain⟨a,b,e⟩:=CY c;rw [if_neg (by omega),e1,qU (g:=be (hb aY) aY) _ fun j hj=>?_,Ia,b,ajm (BL aY hk).1];rw [h (1+j) (by unfold bS;omega)];unfold dM;rw [if_neg (by omega),if_pos (by omega),Nat.add_sub_cancel_left]
 ·unfold aZ;rw [d2];by_cases c:br<8
  ·rw [qV c,if_pos c]
  ·obtain⟨a,b,e⟩:=CY c;rw [if_neg (by omega),e1,e2,qU (g:=be (hb br) br) _ fun j hj=>?_,Ia,b,ajm (BL br hc).1];rw [h (1+hb aY+j) (by unfold bS;omega)];unfold dM;rw [if_neg (by omega),if_neg (by omega),Nat.add_sub_cancel_left]
end Go.Hd
namespace Go.Se
open Go.Hd Go.Gh Go.Gc Go.Ae Go.RX Go.RX.Sh Go.RX.Fk Go.RX.Fi
theorem lF{s:Nat}{K S:Nat→Nat}{aY br na:Nat}{A:Nat→Nat}{nt:Nat}{T:Nat→Nat}(hk:aY<18446744073709551616)(hc:br<18446744073709551616):
  bV (jB s K S aY br na A nt T)=aY∧aZ (jB s K S aY br na A nt T)=br∧hlen (jB s K S aY br na A nt T)=bS aY br∧∀m,bS aY br≤m→qk m (jB s K S aY br na A nt T):=by
 obtain⟨a,b,c,d⟩:=xZ (T:=jB s K S aY br na A nt T) hk hc fun j hj=>by unfold jB fu;rw [if_pos hj]
 refine⟨c,d,by unfold hlen bS;rw [a,b],fun m hm=>⟨by unfold bS at hm;rw [a,b];exact hm,by rw [c,a],by rw [d,b]⟩⟩
theorem Ib{n:Nat}{K N:Nat→Nat}{n1 n2:Nat}{A A' T T':Nat→Nat}(hA: ∀j,j<n1→A j=A' j)(hT: ∀j,j<n2→T j=T' j):lv n K N n1 A n2 T=lv n K N n1 A' n2 T':=by
 have:JG n1 A n2 T=JG n1 A' n2 T':=by
  funext j;unfold JG;split
  ·rename_i c;exact hA j c
  split
  ·rfl
  split
  ·exact hT _ (by omega)
  ·rfl
 unfold lv;rw [this]
theorem L9{s:Nat}(_:oU s){K N A A':Nat→Nat}{na nt:Nat}{T F:Nat→Nat}(hA: ∀j,j<na→A j=A' j)(hF: ∀j,j<nt+bA s→F j=zF s K N na A nt T j):L5 s K N na A' (nt+bA s) F:=by
 refine⟨by omega,?_⟩;by_cases h4:4≤s
 ·have ht:bA s=16:=by
   unfold bA;rw [if_neg (by omega),if_neg (by omega),if_neg (by omega)]
  rw [if_pos h4];intro j hj;rw [ht]at hF ⊢;rw [Nat.add_sub_cancel];have hb: ∀i,i<nt→F i=d_ (ug s) K N T i:=by
   intro i hi;rw [hF i (by omega)];unfold zF jO;rw [if_pos h4,if_pos hi]
  rw [hF (nt+j) (by omega),Ib (A:=A') (A':=A) (T:=F) (T':=d_ (ug s) K N T) (fun i hi=>(hA i hi).symm) hb];unfold zF jO;rw [if_pos h4,if_neg (by omega),Nat.add_sub_cancel_left]
 ·rw [if_neg h4];intro j hj;rw [Nat.add_sub_cancel];have hb: ∀i,i<nt→F i=jb s K N T i:=by
   intro i hi;rw [hF i (by omega)];unfold zF fu;rw [if_neg h4,if_pos hi]
  rw [hF (nt+j) (by omega),FY (A:=A') (A':=A) (Y:=F) (Y':=jb s K N T) (fun i hi=>(hA i hi).symm) hb];unfold zF;rw [if_neg h4,bO]
theorem F8{s:Nat}(gQ:oU s){K S:Nat→Nat}{aY br na:Nat}{A:Nat→Nat}{nt:Nat}{T:Nat→Nat}(hk:aY<18446744073709551616)(hc:br<18446744073709551616):
  j7 s K S na A (bS aY br+(nt+bA s)) (jB s K S aY br na A nt T):=by
 obtain⟨a,b,c,_⟩:=lF (s:=s) (K:=K) (S:=S) (na:=na) (A:=A) (nt:=nt) (T:=T) hk hc;unfold j7;rw [b,c,Nat.add_sub_cancel_left];refine L9 (A:=L6 aY br A) (T:=T) gQ ?_ ?_
 ·intro j hj;unfold L6 rh;rw [c];unfold fu;by_cases e:j<bS aY br
  ·rw [if_pos e,if_pos e];unfold jB fu;rw [if_pos e]
  ·rw [if_neg e,if_neg e]
 ·intro j hj;unfold cD;rw [c];unfold jB;rw [bO]
theorem Ic{s kn aY br na nt:Nat}{K S A T:Nat→Nat}(h:jc s kn na nt=0)(hk:aY<18446744073709551616)(hc:br<18446744073709551616)(VK:Nat):
  fT s kn VK K S na A (bS aY br+(nt+bA s)) (jB s K S aY br na A nt T)=if aY=VK then 0 else 4:=by
 obtain⟨gQ,yz,hna,tx⟩:=Sn h;obtain⟨a,b,c,d⟩:=lF (s:=s) (K:=K) (S:=S) (na:=na) (A:=A) (nt:=nt) (T:=T) hk hc;unfold fT;rw [if_neg (ai4.2 gQ),if_neg (by omega),if_neg (by omega),if_neg (ai4.2 (d _ (by omega))),a,c];by_cases e:aY=VK
 ·rw [if_neg (by omega),if_neg (by omega),if_pos (F8 gQ hk hc),if_pos e]
 ·rw [if_pos e,if_neg e]
end Go.Se

namespace Go.Gh
def sN:Nat:=48611766702991209068831621643639680420
def s(i:Nat):Bool:=sN.testBit i
def rt(k:Nat):Nat→Bool:=if k%2=0 then R (k/2)else vY (k/2) s
def root(f:Nat→Bool):Nat→Bool:=fun i=>xs 128 fun k=>f k&&rt k i
end Go.Gh

namespace Go.Se
open Go.Ae Go.Gh Go.Gc Go.Hd Go.RX.Sh Go.RX.Fk
section
variable {s aY br na nt:Nat} {K S A T:Nat→Nat}
theorem Ie(hk:aY<18446744073709551616)(hc:br<18446744073709551616)(j:Nat)(hj:j<nt):wD s K S (jB s K S aY br na A nt T) j=T j:=by
 obtain⟨a,b,c,d⟩:=lF (s:=s) (K:=K) (S:=S) (na:=na) (A:=A) (nt:=nt) (T:=T) hk hc;unfold wD;rw [b];have ht:cD (jB s K S aY br na A nt T) j=jb s K (bu S br) T j:=by
  unfold cD;rw [c];unfold jB;rw [bO];unfold zF;split
  ·rename_i h4;unfold jO jb;rw [if_pos hj,if_pos h4]
  ·rw [i_ hj]
 unfold jb at ht ⊢;split
 ·rename_i h4;rw [if_pos h4]at ht;unfold d_ at ht ⊢;rw [vX _ _ _ ht,Bm]
 ·rename_i h4;rw [if_neg h4]at ht;rw [vX _ _ _ ht,Bm]
end
end Go.Se

namespace Go.RX.Fx
open Go Go.RX Go.Proofs Go.RX.Sh Go.RX.Fg Go.RX.Fh Go.RX.Fi Go.RX.Fj Go.RX.Fk Go.Hd Go.Gh Go.Gc Go.Ae Go.RX.Fe Go.Se Go.RX.Fq Go.RX.Fw
theorem bL.looks{v:V1}{n:Nat}{A:Nat→Int}:bL [bn true v n A] [bn false v n A]:=bL.views (A:=[]) (B:=[bn true v n A]) fun h hh=>by
 simp only [ai0,aiZ,or_false]at hh;subst hh;exact ar.own
def zH:List Int:=[83,70,114,97,109,101,32,49,46,48,32,82,97,116,99,104,101,116]
def VL(s n:Nat)(T:Nat→Int):Nat→Int:=tV (jP s) (ey s) (ey s) (pc s n T) 18 (jL zH)
theorem Pr{s n:Nat}(gQ:oU s)(h1:1≤n)(h2:n≤1024)(v0:V1)(T:Nat→Int):ax aiT 81 [.int .u16 (s:Int),v0.v] [bn false v0 n T] fun r hs=> ∃o:V1,r= .tuple #[o.v,.int .i64 0]∧hs=[bn true o (ey s) (VL s n T)]:=by
 refine LA _ (s:Int) (n:Int) T v0 ?_;unfold Bs;refine⟨_,iP (B:=[bn false v0 n T]) (FU s v0 n T) ?_ (iB (ar.dD 0 rfl)),?_⟩
 ·rintro v nw (⟨_,_,_,o,_,rfl⟩ | ⟨_,_,_,_,_,_,_,_,_,rfl⟩) h hh
  ·simp only [ai0,aiZ,or_false]at hh;subst hh;rfl
  ·simp only [ai0,aiZ,or_false]at hh;subst hh;rfl
 rintro x hs ⟨nw,(⟨_,_,_,o,rfl,rfl⟩ | ⟨h,_⟩),rfl⟩;rotate_left
 ·rcases h with h | h | h
  ·exact absurd gQ h
  ·omega
  ·omega
 have o8:1≤ey s∧ey s≤64:=by unfold ey;split<;>omega
 refine⟨o,_,_,_,_,_,_,(ey s:Nat),pc s n T,rfl,rfl,fun b0=>⟨fun h=>absurd rfl h,fun _ b1=>?_⟩⟩;have gz:ar [bn true o (ey s) (pc s n T),al b1 false [.int .u8 83,.int .u8 70,.int .u8 114,.int .u8 97,.int .u8 109,.int .u8 101,.int .u8 32,.int .u8 49,.int .u8 46,.int .u8 48,.int .u8 32,.int .u8 82,.int .u8 97,.int .u8 116,.int .u8 99,.int .u8 104,.int .u8 101,.int .u8 116]] (vw (.slice (some ⟨b1,0,none⟩) 18 18) 18 fun j=>(((jL zH j).toNat:Nat):Int)):=
  ar.right (A:=[bn true o (ey s) (pc s n T)]) (ar.block (b:=b1) (n:=18) (m:=18) (wr:=false) (A:=jL zH) (T:=fun j=>(jL zH j).toNat) (fun j hj=>by
   have: ∀j:Fin 18,jL zH j.val=(((jL zH j.val).toNat:Nat):Int):=by decide
   exact this ⟨j,hj⟩) (Nat.le_refl _))
 have e:(fun j=>(((jL zH j).toNat:Nat):Int))=jL zH:=by
  funext j;by_cases hj:j<18
  ·have: ∀j:Fin 18,(((jL zH j.val).toNat:Nat):Int)=jL zH j.val:=by decide
   exact this ⟨j,hj⟩
  ·obtain⟨k,rfl⟩: ∃k,j=18+k:=⟨j - 18,by omega⟩;rw [show 18+k=k+18 by omega];rfl
 rw [e]at gz;refine⟨_,u7 (JT gQ) o.one rfl (ey s) 18 (ey s) o8.2 (by decide) o8.1 o8.2 (pc s n T) (jL zH) (ar.dD 0 rfl) gz,?_⟩;rintro x hs ⟨nw,⟨o2,N,hN,rfl,rfl⟩,rfl⟩;exact⟨o2,(ey s:Nat),N,rfl,rfl,o2,rfl,by subst hN;rfl⟩
theorem L_{B:List HP}{s n:Nat}(gQ:oU s)(h1:1≤n)(h2:n≤1024)(v0:V1)(T:Nat→Int)(hb:ar B (vw v0.v n T)):ax aiT 81 [.int .u16 (s:Int),v0.v] B fun r hs=> ∃nw,(∃o:V1,r= .tuple #[o.v,.int .i64 0]∧nw=[bn true o (ey s) (VL s n T)])∧hs=B++nw:=by
 refine iP (Pr gQ h1 h2 v0 T) ?_ (iB hb);rintro v nw ⟨o,_,rfl⟩ h hh;simp only [ai0,aiZ,or_false]at hh;subst hh;rfl
def gN(s n g:Nat):Nat:=if g=0 then n else ey s
def gT(s n:Nat)(T:Nat→Int):Nat→Nat→Int
 | 0=>T
 | g+1=>VL s (gN s n g) (gT s n T g)
theorem TW{s n:Nat}(h1:1≤n)(h2:n≤1024)(g:Nat):1≤gN s n g∧gN s n g≤1024:=by
 unfold gN;split
 ·omega
 ·unfold ey;split<;>omega
def eg(p bits g:Nat):Nat:=p*2^bits+g
structure Ln (s n p bits:Nat):Prop where
 is:oU s
 n1:1≤n
 n2:n≤1024
 b:bits≤16
 p:(p+1)*2^bits≤2^64
variable {s n p bits:Nat} {T:Nat→Int}
theorem Ln.pow(h:Ln s n p bits):2^bits≤65536:=Nat.pow_le_pow_right (n:=2) (by decide) h.b
theorem Ln.aY(h:Ln s n p bits){g:Nat}(hg:g<2^bits):eg p bits g<2^64:=by
 have:=h.p;rw [Nat.add_mul,Nat.one_mul]at this;unfold eg;omega
theorem Ps(h:Ln s n p bits)(g:Int)(v:V1):ax aiT 45 [.agg #[.int .u16 (s:Int),.int .u64 (p:Int),.int .i64 (bits:Int),.int .u64 g,v.v]] [] fun r hs=>r= .int .u64 ((2^bits - 1:Nat):Int)∧hs=[]:=by
 have hp:=h.pow;have h1:1≤2^bits:=Nat.one_le_two_pow;have hb:=h.b;refine ax.post (p:=fun r _=>r= .int .u64 ((2^bits - 1:Nat):Int)) ?_ fun v hs h=>⟨[],bL.sub (List.nil_sublist _),h,rfl⟩
 refine Ql _ (s:Int) (p:Int) (bits:Int) g v ?_;unfold II;intro b0;refine⟨by omega,fun _=>?_⟩;have e:=tJ 1 bits (by omega);rw [Nat.one_mul,ajm (by omega)]at e;show Value.int .u64 _=_;rw [show ak .shl .u64 1 (bits:Int)=((2^bits:Nat):Int)from e,show((2^bits:Nat):Int) - 1=((2^bits - 1:Nat):Int) by omega,qe (by omega)]
theorem Pt(h:Ln s n p bits){g:Nat}(hg:g<2^bits)(v:V1):ax aiT 48 [.agg #[.int .u16 (s:Int),.int .u64 (p:Int),.int .i64 (bits:Int),.int .u64 (g:Int),v.v]] [] fun r hs=>r= .int .u64 (eg p bits g:Nat)∧hs=[]:=by
 have hp:=h.pow;have hk:=h.aY hg;have hb:=h.b;refine ax.post (p:=fun r _=>r= .int .u64 (eg p bits g:Nat)) ?_ fun v hs h=>⟨[],bL.sub (List.nil_sublist _),h,rfl⟩
 refine Ui _ (s:Int) (p:Int) (bits:Int) (g:Int) v ?_;unfold MD;intro b0;refine⟨by omega,fun _=>?_⟩;show Value.int .u64 _=_;have h3:p*2^bits<2^64:=by unfold eg at hk;omega
 rw [tJ p bits (by omega),ajm h3,Hx h3 (by omega)];have:=Nat.two_pow_add_eq_or_of_lt hg p;unfold eg;rw [Nat.mul_comm p,←this]
def gK(s n p bits:Nat)(T:Nat→Int)(g j:Nat):Nat:=(L4 s (eg p bits g) (gN s n g) (gT s n T g) j).toNat
def gS(s n p bits:Nat)(T:Nat→Int)(g j:Nat):Nat:=(BJ s (eg p bits g) (gN s n g) (gT s n T g) j).toNat
theorem Pu(g j:Nat):gK s n p bits T g j<256:=by
 have:=tW (jP s) (ey s) (ey s) (pc s (gN s n g) (gT s n T g)) 32 (o_ L0 22 (eg p bits g:Int) (s:Int)) j;unfold gK L4;omega
theorem Pv(g j:Nat):gS s n p bits T g j<256:=by
 have:=tW (jP s) (ey s) (ey s) (pc s (gN s n g) (gT s n T g)) 33 (o_ BI 23 (eg p bits g:Int) (s:Int)) j;unfold gS BJ;omega
theorem Y9(g:Nat):L4 s (eg p bits g) (gN s n g) (gT s n T g)=fun j=>(gK s n p bits T g j:Int):=by
 funext j;have:=tW (jP s) (ey s) (ey s) (pc s (gN s n g) (gT s n T g)) 32 (o_ L0 22 (eg p bits g:Int) (s:Int)) j;unfold gK L4;omega
theorem Y_(g:Nat):BJ s (eg p bits g) (gN s n g) (gT s n T g)=fun j=>(gS s n p bits T g j:Int):=by
 funext j;have:=tW (jP s) (ey s) (ey s) (pc s (gN s n g) (gT s n T g)) 33 (o_ BI 23 (eg p bits g:Int) (s:Int)) j;unfold gS BJ;omega
abbrev bb(s n:Nat)(T:Nat→Int)(g:Nat)(v:V1):HP:=bn false v (gN s n g) (gT s n T g)
abbrev Pw(s n p bits:Nat)(T:Nat→Int)(g:Nat)(o:V1):Value:= .agg (.int .u16 (s:Int):: .int .u64 (eg p bits g:Int)::o.v::(aiL (aj .u8 12 fun j=>(gS s n p bits T g j:Int)) [])).toArray
theorem CZ(h:Ln s n p bits){g:Nat}(hg:g<2^bits)(v:V1):ax aiT 41 [.agg #[.int .u16 (s:Int),.int .u64 (p:Int),.int .i64 (bits:Int),.int .u64 (g:Int),v.v]] [bb s n T g v] fun r hs=> ∃o:V1,r=Pw s n p bits T g o∧hs=[bb s n T g v,aq true o (dH s) (gK s n p bits T g)]:=by
 obtain⟨g1,g2⟩:=TW (s:=s) h.n1 h.n2 g;have VM:=iP (B:=[bb s n T g v]) (FX s (eg p bits g) v (gN s n g) (gT s n T g)) (fun v nw hh=>by
  rcases hh with⟨_,_,_,o,_,rfl⟩ | ⟨_,_,_,_,rfl⟩
  ·intro h hh;simp only [ai0,aiZ,or_false]at hh;subst hh;rfl
  ·intro h hh;simp only [ai0,aiZ,or_false]at hh;subst hh;rfl) (iB (ar.dD 0 rfl))
 refine ax.post (p:=fun r hs=> ∃(o:V1) (x y z:HP),r=Pw s n p bits T g o∧(hs=[bb s n T g v,x,y,aq true o (dH s) (gK s n p bits T g),z]∨hs=[bb s n T g v,x,y,z,aq true o (dH s) (gK s n p bits T g)])) ?_ ?_;rotate_left
 ·rintro r hs ⟨o,x,y,z,rfl,rfl | rfl⟩
  ·exact⟨_,bL.sub (by simp),o,rfl,rfl⟩
  ·exact⟨_,bL.sub (by simp),o,rfl,rfl⟩
 have fin: ∀{x hs},(∃nw,Sj s (eg p bits g) (gN s n g) (gT s n T g) x nw∧hs=[bb s n T g v]++nw)→∃o:V1,x= .tuple #[FV s (eg p bits g) o (fun j=>(gS s n p bits T g j:Int)),.int .i64 0]∧hs=[bb s n T g v]++[bn true o (dH s) fun j=>(gK s n p bits T g j:Int)]:=by
  rintro x hs ⟨nw,(⟨_,_,_,o,rfl,rfl⟩ | ⟨hb,_⟩),rfl⟩
  ·exact⟨o,by rw [Y_],by rw [Y9]⟩
  ·rcases hb with hb | hb | hb
   ·exact absurd h.is hb
   ·omega
   ·omega
 refine Qk _ (s:Int) (p:Int) (bits:Int) (g:Int) (gN s n g:Int) (gT s n T g) v ?_;unfold IG;intro b0 b1;refine⟨⟨_,Pt h hg v,?_⟩,fun b2=>⟨_,Pt h hg v,?_⟩⟩
 ·rintro x hs ⟨rfl,rfl⟩;refine⟨_,rfl,rfl,⟨_,VM,?_⟩,fun b2=>⟨_,VM,?_⟩⟩
  ·intro x hs hx;obtain⟨o,rfl,rfl⟩:=fin hx;exact⟨o,_,_,_,(dH s:Nat),_,_,rfl,rfl,fun b2=>⟨o,_,_,_,rfl,.inl rfl⟩⟩
  ·intro x hs hx;obtain⟨o,rfl,rfl⟩:=fin hx;exact⟨o,_,_,_,(dH s:Nat),_,_,rfl,rfl,⟨o,_,_,_,rfl,.inr rfl⟩⟩
 ·rintro x hs ⟨rfl,rfl⟩;refine⟨_,rfl,rfl,_,VM,?_⟩;intro x hs hx;obtain⟨o,rfl,rfl⟩:=fin hx;exact⟨o,_,_,_,(dH s:Nat),_,_,rfl,rfl,⟨o,_,_,_,rfl,.inr rfl⟩⟩
theorem Px(h:Ln s n p bits){g:Nat}(hg:g<2^64 - 1)(v:V1):ax aiT 46 [.agg #[.int .u16 (s:Int),.int .u64 (p:Int),.int .i64 (bits:Int),.int .u64 (g:Int),v.v]] [bb s n T g v] fun r hs=> ∃o:V1,r= .agg #[.int .u16 (s:Int),.int .u64 (p:Int),.int .i64 (bits:Int),.int .u64 ((g+1:Nat):Int),o.v]∧hs=[bb s n T (g+1) o]:=by
 obtain⟨g1,g2⟩:=TW (s:=s) h.n1 h.n2 g;refine ax.post (p:=fun r hs=> ∃(o:V1) (x y z:HP),r= .agg #[.int .u16 (s:Int),.int .u64 (p:Int),.int .i64 (bits:Int),.int .u64 ((g+1:Nat):Int),o.v]∧hs=[x,y,z,bn true o (gN s n (g+1)) (gT s n T (g+1))]) ?_ ?_;rotate_left
 ·rintro r hs ⟨o,x,y,z,rfl,rfl⟩;exact⟨_,bL.trans (bL.sub (by simp)) bL.looks,o,rfl,rfl⟩
 refine RY _ (s:Int) (p:Int) (bits:Int) (g:Int) (gN s n g:Int) (gT s n T g) v ?_;unfold tE;intro b0 b1;refine⟨_,L_ (B:=[bb s n T g v]) h.is g1 g2 v (gT s n T g) (ar.dD 0 rfl),?_⟩;rintro x hs ⟨nw,⟨o,rfl,rfl⟩,rfl⟩;refine⟨o,(ey s:Nat),_,_,rfl,rfl,o,_,_,_,?_,rfl⟩;rw [show(g:Int)+1=((g+1:Nat):Int) by omega,qe (by omega)]
open Go Go.RX Go.Proofs Go.RX.Sh Go.RX.Fg Go.RX.Fh Go.RX.Fi Go.RX.Fj Go.RX.Fk Go.Hd Go.Gh Go.Gc Go.Ae Go.RX.Fe Go.Se Go.RX.Fq Go.RX.Fw
variable {s n p bits:Nat} {T:Nat→Int}
def FB(s n p bits:Nat)(T:Nat→Int)(g c nt:Nat)(X:Nat→Nat):Nat→Nat:=jB s (gK s n p bits T g) (gS s n p bits T g) (eg p bits g) c 0 (fun _=>0) nt X
def FL(s p bits g c nt:Nat):Nat:=bS (eg p bits g) c+(nt+bA s)
theorem Py{X:Nat→Nat}(hX: ∀j,X j<256)(g c nt j:Nat):FB s n p bits T g c nt X j<256:=Pm (Pu g) (Pv g) hX _ _ _ _ _ _
abbrev dj(s p bits:Nat)(b g:Nat)(v:V1)(c:Nat)(sp:Bool):HP:=al b true [.int .u16 (s:Int),.int .u64 (p:Int),.int .i64 (bits:Int),.int .u64 (g:Int),v.v,.int .u64 (c:Int),.bool sp]
theorem Pz(b g:Nat)(v v1 v2:V1)(c na nt:Nat)(A X:Nat→Int):ax aiT 18 [.pointer (some ⟨b,0,none⟩),v1.v,v2.v] [dj s p bits b g v c true,bb s n T g v,bn false v1 na A,bn false v2 nt X] fun r hs=>r= .tuple #[.slice none 0 0,.int .i64 150]∧hs=[dj s p bits b g v c true,bb s n T g v]:=by
 refine ax.post (p:=fun r hs=> ∃y,r= .tuple #[.slice none 0 0,.int .i64 150]∧hs=[dj s p bits b g v c true,bb s n T g v,y]) ?_ ?_;rotate_left
 ·rintro r hs ⟨y,rfl,rfl⟩;exact⟨_,bL.sub (by simp),rfl,rfl⟩
 refine Dv _ (s:Int) (p:Int) (bits:Int) (g:Int) (c:Int) (gN s n g:Int) (na:Int) (nt:Int) (gT s n T g) A X true v v1 v2 b ?_;unfold xE;exact⟨fun _=>⟨_,rfl,rfl⟩,fun h=>absurd rfl h⟩
theorem PA(h:Ln s n p bits){g:Nat}(hg:g<2^bits)(b:Nat)(v v1 v2:V1)(c nt:Nat)(hc:c<2^64)(tx:nt≤65536)(X:Nat→Nat)(hX: ∀j,X j<256):ax aiT 18 [.pointer (some ⟨b,0,none⟩),v1.v,v2.v] [dj s p bits b g v c false,bb s n T g v,aq false v1 0 fun _=>0,aq false v2 nt X] fun r hs=> ∃o:V1,r= .tuple #[o.v,.int .i64 0]∧hs=[dj s p bits b g v ((c+1)%2^64) (decide (c+1=2^64)),bb s n T g v,aq true o (FL s p bits g c nt) (FB s n p bits T g c nt X)]:=by
 have hk:=h.aY hg;refine Dv _ (s:Int) (p:Int) (bits:Int) (g:Int) (c:Int) (gN s n g:Int) (0:Int) (nt:Int) (gT s n T g) (fun _=>0) (fun j=>(X j:Nat)) false v v1 v2 b ?_;unfold xE;refine⟨fun h=>(by cases h),fun _=>?_⟩;refine⟨_,CZ h hg v,?_⟩;rintro x hs ⟨o,rfl,rfl⟩;refine⟨o,_,_,(dH s:Nat),_,_,rfl,rfl,?_⟩;have hz: ∀j:Nat,(fun _=>0:Nat→Nat) j<256:=fun _=>(by decide:0<256)
 have c0:jc s (dH s) 0 nt=0:=Fm.zG h.is rfl (by omega) (by omega);refine⟨_,Fm.F7 (B:=[aq true o (dH s) (gK s n p bits T g),aq false v1 0 fun _=>0,aq false v2 nt X]) o.one v1.one v2.one s (eg p bits g) c (dH s) 0 nt (gK s n p bits T g) (gS s n p bits T g) (fun _=>0) X (Pu g) (Pv g) hz hX hk hc (ar.get 0 rfl) (ar.get 1 rfl) (ar.get 2 rfl),?_⟩;rintro x hs ⟨nw,⟨o2,rfl,rfl⟩,rfl⟩;rw [c0];refine⟨o2,(FL s p bits g c nt:Nat),0,fun j=>(FB s n p bits T g c nt X j:Nat),rfl,?_,fun h=>absurd rfl h,fun _=>?_⟩
 ·unfold JV;rw [if_pos c0];rfl
 refine⟨o2,rfl,?_⟩;rw [show(c:Int)+1=((c+1:Nat):Int) by omega,wrap_u64];have e:(((c+1)%2^64:Nat):Int)=0↔c+1=2^64:=by omega
 have e2:((((c+1)%2^64:Nat):Int)==0)=decide (c+1=2^64):=by
  by_cases Qa:c+1=2^64
  ·rw [decide_eq_true Qa,beq_iff_eq];exact e.2 Qa
  ·rw [decide_eq_false Qa,beq_eq_false_iff_ne];exact fun h=>Qa (e.1 h)
 rw [e2];rfl
theorem C2(h:Ln s n p bits){g:Nat}(hg:g<2^bits)(b:Nat)(v:V1)(c:Nat)(sp:Bool):ax aiT 20 [.pointer (some ⟨b,0,none⟩)] [dj s p bits b g v c sp,bb s n T g v] fun r hs=>(g=2^bits - 1∧r= .int .i64 150∧hs=[dj s p bits b g v c sp,bb s n T g v])∨(g+1<2^bits∧∃o:V1,r= .int .i64 0∧hs=[dj s p bits b (g+1) o 0 false,bb s n T (g+1) o]):=by
 have hp:=h.pow;refine MB _ (s:Int) (p:Int) (bits:Int) (g:Int) (c:Int) (gN s n g:Int) (gT s n T g) sp v b ?_;unfold Dw;refine⟨_,Ps h (g:Int) v,?_⟩;rintro x hs ⟨rfl,rfl⟩;refine⟨_,rfl,rfl,fun he=> .inl ⟨by omega,rfl,rfl⟩,fun he=>?_⟩;refine⟨_,Px h (g:=g) (by omega) v,?_⟩;rintro x hs ⟨o,rfl,rfl⟩;exact⟨o,_,_,_,_,(gN s n (g+1):Nat),_,rfl,rfl,.inr ⟨by omega,o,rfl,rfl⟩⟩
theorem C3(b g:Nat)(v:V1)(c:Nat)(sp:Bool)(c2:Nat):ax aiT 21 [.pointer (some ⟨b,0,none⟩),.int .u64 (c2:Int)] [dj s p bits b g v c sp,bb s n T g v] fun r hs=> ∃e:Int,r= .int .i64 e∧((e=(if sp=true then 150 else 5)∧(sp=true∨c2<c)∧hs=[dj s p bits b g v c sp,bb s n T g v])∨(e=0∧sp=false∧c≤c2∧hs=[dj s p bits b g v c2 sp,bb s n T g v])):=by
 refine ME _ (s:Int) (p:Int) (bits:Int) (g:Int) (c:Int) (gN s n g:Int) (c2:Int) (gT s n T g) sp v b ?_;unfold Dy;refine⟨fun hs=>⟨150,rfl,.inl ⟨by rw [if_pos hs],.inl hs,rfl⟩⟩,fun hs=>⟨fun hc=>⟨5,rfl,.inl ⟨by rw [if_neg hs],.inr (by omega),rfl⟩⟩,fun hc=>⟨0,rfl,.inr ⟨rfl,by simpa using hs,by omega,rfl⟩⟩⟩⟩
theorem Sr(h:Ln s n p bits){g:Nat}(hg:g<2^bits)(b:Nat)(v:V1)(c:Nat)(sp:Bool):ax aiT 23 [.pointer (some ⟨b,0,none⟩)] [dj s p bits b g v c sp,bb s n T g v] fun r hs=>r=(if sp=true then .tuple #[.int .u64 0,.int .u64 0,.bool false]else .tuple #[.int .u64 (eg p bits g:Nat),.int .u64 (c:Int),.bool true])∧hs=[dj s p bits b g v c sp,bb s n T g v]:=by
 refine MC _ (s:Int) (p:Int) (bits:Int) (g:Int) (c:Int) (gN s n g:Int) (gT s n T g) sp v b ?_;unfold Dx;refine⟨fun hs=>⟨by rw [if_pos hs],rfl⟩,fun hs=>?_⟩;refine⟨_,Pt h hg v,?_⟩;rintro x vO ⟨rfl,rfl⟩;exact⟨_,rfl,rfl,by rw [if_neg hs],rfl⟩
theorem TX{bi:Int}(gQ:oU s)(h1:1≤n)(h2:n≤1024)(hb: ¬((bi<0∨16<bi)∨ak .shr .u64 18446744073709551615 bi<(p:Int))): ∃bits:Nat,bi=(bits:Int)∧Ln s n p bits:=by
 obtain⟨bits,rfl⟩:=Int.eq_ofNat_of_zero_le (show 0≤bi by omega);have acG:bits≤16:=by omega
 refine⟨bits,rfl,gQ,h1,h2,acG,?_⟩;have hs: ¬ak .shr .u64 18446744073709551615 (bits:Int)<(p:Int):=fun h=>hb (.inr h)
 rw [show(18446744073709551615:Int)=((18446744073709551615:Nat):Int)from rfl,fJ .u64 18446744073709551615 bits (by show bits≤64;omega),Nat.shiftRight_eq_div_pow]at hs;have hle:p≤18446744073709551615/2^bits:=by omega
 have h3:p*2^bits≤18446744073709551615:=(Nat.le_div_iff_mul_le (Nat.two_pow_pos bits)).1 hle;have e:(2:Nat)^64=2^(64 - bits)*2^bits:=by rw [←Nat.pow_add];congr 1;omega
 have h4:p<2^(64 - bits):=by
  refine Nat.lt_of_mul_lt_mul_right (a:=2^bits) ?_;rw [←e];omega
 rw [e];exact Nat.mul_le_mul_right _ h4
theorem PB{B:List HP}(s aY:Nat)(v0:V1)(n:Nat)(T:Nat→Int)(hb:ar B (vw v0.v n T)):ax aiT 77 [.int .u16 (s:Int),v0.v,.int .u64 (aY:Int)] B fun r hs=> ∃nw,Sj s aY n T r nw∧hs=B++nw:=
 iP (FX s aY v0 n T) (fun v nw hh=>by
  rcases hh with⟨_,_,_,o,_,rfl⟩ | ⟨_,_,_,_,rfl⟩
  ·intro h hh;simp only [ai0,aiZ,or_false]at hh;subst hh;rfl
  ·intro h hh;simp only [ai0,aiZ,or_false]at hh;subst hh;rfl) (iB hb)
end Go.RX.Fx
