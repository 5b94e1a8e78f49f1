/- Opening a frame. -/
import Derived.Test.YtmgbbbmdbpbeeaaGreatM45
open Classical renaming not_not → ae6
open Go.Proofs.Tryz renaming prog → ae0
open Int renaming toNat → ag
open List renaming append → aeU, mem_cons → afd, not_mem_nil → ae9
namespace Go.RX.Fm
open Go Go.RX Go.Proofs Go.RX.Sh Go.RX.Fg Go.RX.Fi Go.RX.Fj Go.RX.Fk Go.Hd Go.Gh Go.Gc Go.Ae Go.RX.Fe Go.Se
theorem uA{B:List HP}{x0 x1 x2:Value}(s:Nat)(h0:x0.oneCell'=true)(h1:x1.oneCell'=true)(h2:x2.oneCell'=true)(kn:Nat)(hk:kn=4*lF s)(K N A T:Nat→Nat)(hK: ∀j,K j<256)(hN: ∀j,N j<256)(hA: ∀j,A j<256)(hT: ∀j,T j<256)(n1 m:Nat)(hl:n1+m+100≤140737488355328)
  (yZ:au B (aB x0 kn K)) (wm:au B (aB x1 n1 A)) (y4:au B (aB x2 m T)):
  aw ae0 59 [x0,fb N,x1,x2] B fun r hs=> ∃(o:V1) (L:Nat) (c:Int),r= .tuple #[o.v,.int .i64 c]∧hs=B++[aj true o L (de (lF s) K N T)]∧((opens (lF s) K N n1 A m T∧L=m - 16∧c=0)∨(¬opens (lF s) K N n1 A m T∧L=0∧c=140)):=by
 have h:aw ae0 59 [x0,fb N,x1,x2] B fun r hs=> ∃nw,oX (lF s) K N n1 A m T r nw∧hs=B++nw:=by
  by_cases c5:s=5
  ·have e8:lF s=8:=by unfold lF;rw [if_pos c5]
   rw [e8]at hk ⊢;subst hk;exact y7 h0 h1 h2 K N A T hK hN hA hT n1 m hl yZ wm y4
  ·have e8:lF s=4:=by unfold lF;rw [if_neg c5]
   rw [e8]at hk ⊢;subst hk;exact y8 h0 h1 h2 K N A T hK hN hA hT n1 m hl yZ wm y4
 refine aw.post h ?_;rintro r hs ⟨nw,⟨ho,o,rfl,rfl⟩ | ⟨ho,rfl,rfl⟩,rfl⟩
 ·exact⟨_,bX.refl _,o,m - 16,0,rfl,rfl,.inl ⟨ho,rfl,rfl⟩⟩
 ·exact⟨_,bX.front (A:=B) (bX.jG (t:=5)),⟨.slice none 0 0,rfl⟩,0,140,rfl,rfl,.inr ⟨ho,rfl,rfl⟩⟩
def Ac(s kn aU na m:Nat)(K S A F:Nat→Nat)(r:Value)(hs:List HP):Prop:=
 ∃o:V1,r= .tuple #[o.v,.int .u64 (uB s kn aU K S na A m F:Nat),.int .i64 (cN s kn aU K S na A m F:Nat)]∧hs=[aj true o (wY s kn aU K S na A m F) (rY s K S F)]
set_option maxHeartbeats 4000000 in
theorem Db(s aU kn na m:Nat)(v0 v1 v2:V1)(K S A F:Nat→Nat)(hK: ∀j,K j<256)(hS: ∀j,S j<256)(hA: ∀j,A j<256)(hF: ∀j,F j<256)(hm:m≤9223372036854775807):
  aw ae0 10 [.agg (.int .u16 (s:Int):: .int .u64 (aU:Int)::v0.v::(aeU (al .u8 12 fun j=>((S j:Nat):Int)) [])).toArray,v1.v,v2.v] [aj false v0 kn K,aj false v1 na A,aj false v2 m F] (Ac s kn aU na m K S A F):=by
 refine aw.post (p:=fun r hs=>(cN s kn aU K S na A m F≠0∧r= .tuple #[.slice none 0 0,.int .u64 0,.int .i64 (cN s kn aU K S na A m F:Nat)])∨(cN s kn aU K S na A m F=0∧∃o:V1,r= .tuple #[o.v,.int .u64 (bf F:Nat),.int .i64 0]∧hs=[aj true o (m - hlen F - aY s) (rY s K S F)])) ?_ ?_;rotate_left
 ·rintro r hs (⟨h,rfl⟩ | ⟨h,o,rfl,rfl⟩)
  ·refine⟨_,bX.trans (bX.sub (List.nil_sublist _)) (bX.jG (t:=5)),⟨.slice none 0 0,rfl⟩,?_,?_⟩
   ·unfold uB;rw [if_neg h];rfl
   ·unfold wY;rw [if_neg h];rfl
  ·refine⟨_,bX.refl _,o,?_,?_⟩
   ·unfold uB;rw [if_pos h,h];rfl
   ·unfold wY;rw [if_pos h]
 refine LI _ (s:Int) (aU:Int) (kn:Int) (na:Int) (m:Int) (fun j=>(K j:Nat)) (fun j=>(S j:Nat)) (fun j=>(A j:Nat)) (fun j=>(F j:Nat)) v0 v1 v2 ?_;unfold C_;intro b0 b1 b2;refine⟨_,uC s,?_⟩;rintro x hs ⟨⟨fA,rfl⟩ | ⟨fA,rfl⟩,rfl⟩;rotate_left
 ·refine⟨0,0,0,0,0,130,rfl,rfl,?_⟩;intro b3;have:cN s kn aU K S na A m F=130:=by unfold cN;rw [if_pos fA]
  refine⟨fun _ b4=> .inl ⟨?_,?_⟩,fun h=>absurd h (by decide)⟩
  ·rw [this];decide
  ·rw [this];rfl
 refine⟨(uD s:Nat),(gj s:Nat),(Dc s:Nat),(aY s:Nat),(Pv s:Nat),0,rfl,rfl,?_⟩;intro b3;have Dd: ¬¬isS s:=ae6.2 fA;refine⟨fun h=>absurd rfl h,fun _=>⟨by omega,fun _=>⟨fun hk b4=> .inl ?_,fun hk=>⟨by omega,fun _=>⟨fun h3 b4=> .inl ?_,fun h3 b4=>?_⟩⟩⟩⟩⟩
 ·have:cN s kn aU K S na A m F=2:=by unfold cN;rw [if_neg Dd,if_pos (by omega)]
  exact⟨by rw [this];decide,by rw [this];rfl⟩
 ·have:cN s kn aU K S na A m F=3:=by unfold cN;rw [if_neg Dd,if_neg (by omega),if_pos (by omega)]
  exact⟨by rw [this];decide,by rw [this];rfl⟩
 have qZ:kn=gj s:=by omega
 have uE:aY s≤16:=by
  rcases fA with h | h | h | h | h<;>subst h<;>decide
 refine⟨_,q8 v2.one m F hF (B:=[aj false v2 m F]) au.view,?_⟩;rintro x hs ⟨⟨hh,rfl⟩ | ⟨hh,rfl⟩,rfl⟩;rotate_left
 ·refine⟨0,0,0,9,rfl,rfl,?_⟩;intro b5;have:cN s kn aU K S na A m F=9:=by unfold cN;rw [if_neg Dd,if_neg (by omega),if_neg (by omega),if_pos hh]
  refine⟨fun _=> .inl ⟨?_,?_⟩,fun h=>absurd h (by decide)⟩
  ·rw [this];decide
  ·rw [this];rfl
 refine⟨(bZ F:Nat),(bf F:Nat),(hlen F:Nat),0,rfl,rfl,?_⟩;intro b5;have Pw: ¬¬nE m F:=ae6.2 hh;have LJ:hlen F≤m:=hh.1;have X_:=HF hF;refine⟨fun h=>absurd rfl h,fun _=>⟨fun oG=> .inl ?_,fun oG=>⟨by omega,fun _=>⟨by omega,fun _=>⟨by omega,fun _=>⟨by omega,fun _=>⟨by omega,fun _=>⟨fun h5=> .inl ?_,fun h5=>⟨by omega,fun _=>⟨by omega,fun _=>?_⟩⟩⟩⟩⟩⟩⟩⟩⟩⟩
 ·have:cN s kn aU K S na A m F=4:=by unfold cN;rw [if_neg Dd,if_neg (by omega),if_neg (by omega),if_neg Pw,if_pos (by omega)]
  exact⟨by rw [this];decide,by rw [this];rfl⟩
 ·have:cN s kn aU K S na A m F=3:=by unfold cN;rw [if_neg Dd,if_neg (by omega),if_neg (by omega),if_neg Pw,if_neg (by omega),if_pos (by omega)]
  exact⟨by rw [this];decide,by rw [this];rfl⟩
 have De: ¬iB s K S na A m F→cN s kn aU K S na A m F=140:=fun h=>by
  unfold cN;rw [if_neg Dd,if_neg (by omega),if_neg (by omega),if_neg Pw,if_neg (by omega),if_neg (by omega),if_neg h]
 have Ad:iB s K S na A m F→cN s kn aU K S na A m F=0:=fun h=>by
  unfold cN;rw [if_neg Dd,if_neg (by omega),if_neg (by omega),if_neg Pw,if_neg (by omega),if_neg (by omega),if_pos h]
 have jN:=wZ hF;have hN:=mO hS (bf F);have K8:=LK hF hA;have tD: ∀j,cz F j<256:=fun j=>hF _
 have vL:=fun(v0:V1)=>uF s aU (bf F) v0 S hS jN
 have tm:ag (m:Int)=m:=rfl;have th:ag ((hlen F:Nat):Int)=hlen F:=rfl;have bt:au [aj false v2 m F] (aB (aD 1 v2.v (hlen F) m none) (m - hlen F) (cz F)):=au.part (lo:=hlen F) (hi:=m) (mx:=none) (au.view (v:=v2) (n:=m) (T:=F)) LJ (Nat.le_refl _) (by simp);have bh:au [aj false v2 m F] (aB (aD 1 v2.v 0 (hlen F) none) (hlen F) F):=by
  have:=au.part (lo:=0) (hi:=hlen F) (mx:=none) (au.view (v:=v2) (n:=m) (T:=F)) (by omega) LJ (by simp);rw [Nat.sub_zero]at this;simp only [Nat.zero_add]at this;exact this
 refine⟨fun b6 b7 b8=>?_,fun b6 b7 b8 b9=>?_⟩
 ·refine⟨fun hg b9=>?_,fun hg=>?_⟩
  ·have jo:4≤s:=by
    rcases fA with h | h | h | h | h<;>subst h<;>first | (exact absurd hg (by decide)) | decide
   have Bb:kn=4*lF s:=by
    rw [qZ];rcases fA with h | h | h | h | h<;>subst h<;>first | (exact absurd jo (by decide)) | rfl
   have Px:aY s=16:=by
    rcases fA with h | h | h | h | h<;>subst h<;>first | (exact absurd jo (by decide)) | rfl
   refine⟨_,fU (B:=[aj false v2 m F,aj false v1 na A]) b9 (aK ..) v1.one (hlen F) na F A (by omega) (au.left (C:=[aj false v1 na A]) bh) (au.get 1 rfl),?_⟩;rintro x hs ⟨v3,rfl,rfl⟩;refine⟨v3,(hlen F+na:Nat),fun j=>(oH F A j:Nat),rfl,rfl,?_⟩;refine⟨_,vL v0,?_⟩;rintro x hs ⟨rfl,rfl⟩;refine⟨fun j=>(aJ S (bf F) j:Nat),rfl,rfl,?_⟩;refine⟨_,uA (B:=[aj false v0 kn K,aj true v3 (hlen F+na) (oH F A),aj false v2 m F]) s v0.one v3.one (aK ..) kn Bb K (aJ S (bf F)) (oH F A) (cz F) hK hN K8 tD (hlen F+na) (m - hlen F) (by omega) (au.get 0 rfl) (au.get 1 rfl) (au.right (A:=[aj false v0 kn K,aj true v3 (hlen F+na) (oH F A)]) bt),?_⟩;rintro x hs ⟨v4,gL,gc,rfl,rfl,ho⟩;refine⟨v4,(gL:Int),gc,fun j=>(de (lF s) K (aJ S (bf F)) (cz F) j:Nat),rfl,rfl,?_⟩;have mP:opens (lF s) K (aJ S (bf F)) (hlen F+na) (oH F A) (m - hlen F) (cz F)↔iB s K S na A m F:=(w7 fA jo _ _ _ _ _ _).symm;rcases ho with⟨ho,rfl,rfl⟩ | ⟨ho,rfl,rfl⟩
   ·refine⟨fun h=>absurd rfl h,fun _=> .inr ⟨Ad (mP.1 ho),v4,rfl,?_⟩⟩;unfold rY eg;rw [if_pos jo,Px];rfl
   ·have:=De fun h=>ho (mP.2 h)
    exact⟨fun _=> .inl ⟨by rw [this];decide,by rw [this];rfl⟩,fun h=>absurd h (by decide)⟩
  ·have jo: ¬4≤s:=by
    rcases fA with h | h | h | h | h<;>subst h<;>first | (exact absurd rfl hg) | decide
   have LL:Dc s=16:=by
    rcases fA with h | h | h | h | h<;>subst h<;>first | (exact absurd (by decide) jo) | rfl
   have OK:gj s=48:=by
    rcases fA with h | h | h | h | h<;>subst h<;>first | (exact absurd (by decide) jo) | rfl
   have eh:uD s=1:=by
    rcases fA with h | h | h | h | h<;>subst h<;>first | (exact absurd (by decide) jo) | rfl
   rw [LL,eh];have U6:kn=48:=by rw [qZ,OK]
   refine⟨by omega,fun _=>⟨by omega,fun _=>?_⟩⟩;have U7:au [aj false v0 kn K] (aB (aD 1 v0.v 0 16 none) 16 K):=by
    have:=au.part (lo:=0) (hi:=16) (mx:=none) (au.view (v:=v0) (n:=kn) (T:=K)) (by decide) (by omega) (by simp);simp only [Nat.zero_add]at this;exact this
   refine⟨_,oY (B:=[aj false v0 kn K]) (aK ..) K hK U7,?_⟩;rintro x hs ⟨bc,v3,rfl,rfl⟩;refine⟨bc,v3,(4*(4+7):Nat),fun j=>(sb j:Nat),cw 4 K,rfl,rfl,?_⟩;intro Pa Xn Rw Pb;refine⟨_,fU (B:=[aj false v2 m F,aj false v1 na A]) Pb (aK ..) v1.one (hlen F) na F A (by omega) (au.left (C:=[aj false v1 na A]) bh) (au.get 1 rfl),?_⟩;rintro x hs ⟨v4,rfl,rfl⟩;refine⟨v4,(hlen F+na:Nat),fun j=>(oH F A j:Nat),rfl,rfl,?_⟩;by_cases q9:m - hlen F<aY s
   ·have Py: ¬iB s K S na A m F:=fun h=>by have:=h.1;omega
    have:=De Py
    iterate 12 refine⟨by omega,fun _=>?_⟩
    refine⟨fun h=>by omega,fun _=> .inl ?_⟩;exact⟨by rw [this];decide,by rw [this];rfl⟩
   have e1:(m:Int) - ((hlen F:Nat):Int)=((m - hlen F:Nat):Int):=by omega
   rw [e1];have e2:((m - hlen F:Nat):Int) - ((aY s:Nat):Int)=((m - hlen F - aY s:Nat):Int):=by omega
   rw [e2];have hd:(decide (((m - hlen F - aY s:Nat):Int)<0))=false:=decide_eq_false (by omega);rw [hd]
   iterate 12 refine⟨by omega,fun _=>?_⟩
   refine⟨fun _=>?_,fun h=>by omega⟩;have Ya: ∀j,j<m - hlen F - aY s→cz F (0+j)=cz F j:=fun j _=>by rw [Nat.zero_add]
   have bx:au [aj false v2 m F] (aB (aD 1 (aD 1 v2.v (hlen F) m none) 0 (m - hlen F - aY s) none) (m - hlen F - aY s) (cz F)):=by
    have:=au.part (lo:=0) (hi:=m - hlen F - aY s) (mx:=none) bt (by omega) (by omega) (by simp);rw [Nat.sub_zero,nF Ya]at this;exact this
   have bg:au [aj false v2 m F] (aB (aD 1 (aD 1 v2.v (hlen F) m none) (m - hlen F - aY s) (m - hlen F) none) (aY s) fun j=>cz F (m - hlen F - aY s+j)):=by
    have:=au.part (lo:=m - hlen F - aY s) (hi:=m - hlen F) (mx:=none) bt (by omega) (by omega) (by simp);rw [show m - hlen F - (m - hlen F - aY s)=aY s by omega]at this;exact this
   refine⟨_,vL v0,?_⟩;rintro x hs ⟨rfl,rfl⟩;refine⟨fun j=>(aJ S (bf F) j:Nat),rfl,rfl,?_⟩;intro KZ
   iterate 4 refine⟨by omega,fun _=>?_⟩
   refine⟨_,iU (hlen F+na),?_⟩;rintro x hs ⟨v5,rfl,rfl⟩;refine⟨v5,fun j=>(cJ (hlen F+na) j:Nat),rfl,rfl,?_⟩;refine⟨_,iU (m - hlen F - aY s),?_⟩;rintro x hs ⟨v6,rfl,rfl⟩;refine⟨v6,fun j=>(cJ (m - hlen F - aY s) j:Nat),rfl,rfl,?_⟩;refine⟨_,iU (aY s),?_⟩;rintro x hs ⟨v7,rfl,rfl⟩;refine⟨v7,fun j=>(cJ (aY s) j:Nat),rfl,rfl,?_⟩;intro bm;have t48:ag (kn:Int)=48:=by omega
   dsimp only [bo,bi,bn];rw [t48];refine⟨_,q_ bm KZ v0 K hK false v5 v6 v7 v4 (aD 1 (aD 1 v2.v (hlen F) m none) 0 (m - hlen F - aY s) none) (aK ..) v2 m F s (aJ S (bf F)) (hlen F+na) (oH F A) (m - hlen F - aY s) (cz F) hN K8 tD (by omega) bx,?_⟩;rintro x hs ⟨v8,rfl,rfl⟩;refine⟨v8,(32:Nat),fun j=>(dW s K (aJ S (bf F)) (hlen F+na) (oH F A) (m - hlen F - aY s) (cz F) j:Nat),rfl,rfl,?_⟩;have bs:au [aj true v8 32 (dW s K (aJ S (bf F)) (hlen F+na) (oH F A) (m - hlen F - aY s) (cz F)),aj false v2 m F] (aB (aD 1 v8.v 0 (aY s) none) (aY s) (dW s K (aJ S (bf F)) (hlen F+na) (oH F A) (m - hlen F - aY s) (cz F))):=by
    have:=au.part (lo:=0) (hi:=aY s) (mx:=none) (au.bytes (v:=v8) (n:=32) (T:=dW s K (aJ S (bf F)) (hlen F+na) (oH F A) (m - hlen F - aY s) (cz F))) (by omega) (by omega) (by simp);rw [Nat.sub_zero]at this;simp only [Nat.zero_add]at this;exact au.left (C:=[aj false v2 m F]) this
   refine⟨by omega,fun _=>⟨by omega,fun _=>?_⟩⟩;refine⟨_,nG (B:=[aj true v8 32 (dW s K (aJ S (bf F)) (hlen F+na) (oH F A) (m - hlen F - aY s) (cz F)),aj false v2 m F]) (x1:=aD 1 v8.v 0 (aY s) none) (x2:=aD 1 (aD 1 v2.v (hlen F) m none) (m - hlen F - aY s) (m - hlen F) none) (aK ..) (aK ..) (aY s) (aY s) (dW s K (aJ S (bf F)) (hlen F+na) (oH F A) (m - hlen F - aY s) (cz F)) (fun j=>cz F (m - hlen F - aY s+j)) (rZ _ _ _ _ _ _ _) (fun j=>tD _) (by omega) bs (au.right (A:=[aj true v8 32 (dW s K (aJ S (bf F)) (hlen F+na) (oH F A) (m - hlen F - aY s) (cz F))]) bg),?_⟩;rintro x hs ⟨rfl,rfl⟩;refine⟨_,rfl,rfl,?_⟩;have mP:mQ (aY s) (aY s) (dW s K (aJ S (bf F)) (hlen F+na) (oH F A) (m - hlen F - aY s) (cz F)) (fun j=>cz F (m - hlen F - aY s+j))=true↔iB s K S na A m F:=by
    unfold mQ iB w9;rw [decide_eq_true_iff,if_neg jo];exact⟨fun h=>⟨by omega,h.2⟩,fun h=>⟨rfl,h.2⟩⟩
   refine⟨fun eZ=> .inl ?_,fun heq=>?_⟩
   ·have:=De fun h=>eZ (mP.2 h)
    exact⟨by rw [this];decide,by rw [this];rfl⟩
   have LM:=mP.1 (ae6.1 heq);intro Rx;refine⟨_,vL v0,?_⟩;rintro x hs ⟨rfl,rfl⟩;refine⟨fun j=>(aJ S (bf F) j:Nat),rfl,rfl,?_⟩;intro K2 CH;rw [ra];have hC:=f_ hN (c:=0) (by decide);refine⟨_,dO (B:=[aj false v2 m F]) (x:=aD 1 (aD 1 v2.v (hlen F) m none) 0 (m - hlen F - aY s) none) (aK ..) bc CH v3 4 (by decide) (by decide) K (cA (aJ S (bf F)) 0) (cz F) hK hC tD (m - hlen F - aY s) (by omega) bx,?_⟩;rintro x hs ⟨v9,rfl,rfl⟩;refine⟨v9,(m - hlen F - aY s:Nat),fun j=>(cS 4 K (cA (aJ S (bf F)) 0) (cz F) j:Nat),rfl,rfl,?_⟩;refine .inr ⟨Ad LM,v9,rfl,?_⟩;unfold rY eg;rw [if_neg jo];rfl
 ·refine⟨fun hg=>?_,fun hg=>?_⟩
  ·have jo:4≤s:=by
    rcases fA with h | h | h | h | h<;>subst h<;>first | (exact absurd hg (by decide)) | decide
   have Bb:kn=4*lF s:=by
    rw [qZ];rcases fA with h | h | h | h | h<;>subst h<;>first | (exact absurd jo (by decide)) | rfl
   have Px:aY s=16:=by
    rcases fA with h | h | h | h | h<;>subst h<;>first | (exact absurd jo (by decide)) | rfl
   refine⟨_,fU (B:=[aj false v2 m F,aj false v1 na A]) b6 (aK ..) v1.one (hlen F) na F A (by omega) (au.left (C:=[aj false v1 na A]) bh) (au.get 1 rfl),?_⟩;rintro x hs ⟨v3,rfl,rfl⟩;refine⟨v3,(hlen F+na:Nat),fun j=>(oH F A j:Nat),rfl,rfl,?_⟩;refine⟨_,vL v0,?_⟩;rintro x hs ⟨rfl,rfl⟩;refine⟨fun j=>(aJ S (bf F) j:Nat),rfl,rfl,?_⟩;refine⟨_,uA (B:=[aj false v0 kn K,aj true v3 (hlen F+na) (oH F A),aj false v2 m F]) s v0.one v3.one (aK ..) kn Bb K (aJ S (bf F)) (oH F A) (cz F) hK hN K8 tD (hlen F+na) (m - hlen F) (by omega) (au.get 0 rfl) (au.get 1 rfl) (au.right (A:=[aj false v0 kn K,aj true v3 (hlen F+na) (oH F A)]) bt),?_⟩;rintro x hs ⟨v4,gL,gc,rfl,rfl,ho⟩;refine⟨v4,(gL:Int),gc,fun j=>(de (lF s) K (aJ S (bf F)) (cz F) j:Nat),rfl,rfl,?_⟩;have mP:opens (lF s) K (aJ S (bf F)) (hlen F+na) (oH F A) (m - hlen F) (cz F)↔iB s K S na A m F:=(w7 fA jo _ _ _ _ _ _).symm;rcases ho with⟨ho,rfl,rfl⟩ | ⟨ho,rfl,rfl⟩
   ·refine⟨fun h=>absurd rfl h,fun _=> .inr ⟨Ad (mP.1 ho),v4,rfl,?_⟩⟩;unfold rY eg;rw [if_pos jo,Px];rfl
   ·have:=De fun h=>ho (mP.2 h)
    exact⟨fun _=> .inl ⟨by rw [this];decide,by rw [this];rfl⟩,fun h=>absurd h (by decide)⟩
  ·have jo: ¬4≤s:=by
    rcases fA with h | h | h | h | h<;>subst h<;>first | (exact absurd rfl hg) | decide
   have LL:Dc s=16:=by
    rcases fA with h | h | h | h | h<;>subst h<;>first | (exact absurd (by decide) jo) | rfl
   have OK:gj s=48:=by
    rcases fA with h | h | h | h | h<;>subst h<;>first | (exact absurd (by decide) jo) | rfl
   have eh:uD s=1:=by
    rcases fA with h | h | h | h | h<;>subst h<;>first | (exact absurd (by decide) jo) | rfl
   rw [LL,eh];have U6:kn=48:=by rw [qZ,OK]
   refine⟨by omega,fun _=>⟨by omega,fun _=>?_⟩⟩;have U7:au [aj false v0 kn K] (aB (aD 1 v0.v 0 16 none) 16 K):=by
    have:=au.part (lo:=0) (hi:=16) (mx:=none) (au.view (v:=v0) (n:=kn) (T:=K)) (by decide) (by omega) (by simp);simp only [Nat.zero_add]at this;exact this
   refine⟨_,oY (B:=[aj false v0 kn K]) (aK ..) K hK U7,?_⟩;rintro x hs ⟨bc,v3,rfl,rfl⟩;refine⟨bc,v3,(4*(4+7):Nat),fun j=>(sb j:Nat),cw 4 K,rfl,rfl,?_⟩;intro Xn Rw Pb;refine⟨_,fU (B:=[aj false v2 m F,aj false v1 na A]) b6 (aK ..) v1.one (hlen F) na F A (by omega) (au.left (C:=[aj false v1 na A]) bh) (au.get 1 rfl),?_⟩;rintro x hs ⟨v4,rfl,rfl⟩;refine⟨v4,(hlen F+na:Nat),fun j=>(oH F A j:Nat),rfl,rfl,?_⟩;by_cases q9:m - hlen F<aY s
   ·have Py: ¬iB s K S na A m F:=fun h=>by have:=h.1;omega
    have:=De Py
    iterate 12 refine⟨by omega,fun _=>?_⟩
    refine⟨fun h=>by omega,fun _=> .inl ?_⟩;exact⟨by rw [this];decide,by rw [this];rfl⟩
   have e1:(m:Int) - ((hlen F:Nat):Int)=((m - hlen F:Nat):Int):=by omega
   rw [e1];have e2:((m - hlen F:Nat):Int) - ((aY s:Nat):Int)=((m - hlen F - aY s:Nat):Int):=by omega
   rw [e2];have hd:(decide (((m - hlen F - aY s:Nat):Int)<0))=false:=decide_eq_false (by omega);rw [hd]
   iterate 12 refine⟨by omega,fun _=>?_⟩
   refine⟨fun _=>?_,fun h=>by omega⟩;have Ya: ∀j,j<m - hlen F - aY s→cz F (0+j)=cz F j:=fun j _=>by rw [Nat.zero_add]
   have bx:au [aj false v2 m F] (aB (aD 1 (aD 1 v2.v (hlen F) m none) 0 (m - hlen F - aY s) none) (m - hlen F - aY s) (cz F)):=by
    have:=au.part (lo:=0) (hi:=m - hlen F - aY s) (mx:=none) bt (by omega) (by omega) (by simp);rw [Nat.sub_zero,nF Ya]at this;exact this
   have bg:au [aj false v2 m F] (aB (aD 1 (aD 1 v2.v (hlen F) m none) (m - hlen F - aY s) (m - hlen F) none) (aY s) fun j=>cz F (m - hlen F - aY s+j)):=by
    have:=au.part (lo:=m - hlen F - aY s) (hi:=m - hlen F) (mx:=none) bt (by omega) (by omega) (by simp);rw [show m - hlen F - (m - hlen F - aY s)=aY s by omega]at this;exact this
   refine⟨_,vL v0,?_⟩;rintro x hs ⟨rfl,rfl⟩;refine⟨fun j=>(aJ S (bf F) j:Nat),rfl,rfl,?_⟩;intro KZ
   iterate 4 refine⟨by omega,fun _=>?_⟩
   refine⟨_,iU (hlen F+na),?_⟩;rintro x hs ⟨v5,rfl,rfl⟩;refine⟨v5,fun j=>(cJ (hlen F+na) j:Nat),rfl,rfl,?_⟩;refine⟨_,iU (m - hlen F - aY s),?_⟩;rintro x hs ⟨v6,rfl,rfl⟩;refine⟨v6,fun j=>(cJ (m - hlen F - aY s) j:Nat),rfl,rfl,?_⟩;refine⟨_,iU (aY s),?_⟩;rintro x hs ⟨v7,rfl,rfl⟩;refine⟨v7,fun j=>(cJ (aY s) j:Nat),rfl,rfl,?_⟩;intro bm;have t48:ag (kn:Int)=48:=by omega
   dsimp only [bo,bi,bn];rw [t48];refine⟨_,q_ bm KZ v0 K hK false v5 v6 v7 v4 (aD 1 (aD 1 v2.v (hlen F) m none) 0 (m - hlen F - aY s) none) (aK ..) v2 m F s (aJ S (bf F)) (hlen F+na) (oH F A) (m - hlen F - aY s) (cz F) hN K8 tD (by omega) bx,?_⟩;rintro x hs ⟨v8,rfl,rfl⟩;refine⟨v8,(32:Nat),fun j=>(dW s K (aJ S (bf F)) (hlen F+na) (oH F A) (m - hlen F - aY s) (cz F) j:Nat),rfl,rfl,?_⟩;have bs:au [aj true v8 32 (dW s K (aJ S (bf F)) (hlen F+na) (oH F A) (m - hlen F - aY s) (cz F)),aj false v2 m F] (aB (aD 1 v8.v 0 (aY s) none) (aY s) (dW s K (aJ S (bf F)) (hlen F+na) (oH F A) (m - hlen F - aY s) (cz F))):=by
    have:=au.part (lo:=0) (hi:=aY s) (mx:=none) (au.bytes (v:=v8) (n:=32) (T:=dW s K (aJ S (bf F)) (hlen F+na) (oH F A) (m - hlen F - aY s) (cz F))) (by omega) (by omega) (by simp);rw [Nat.sub_zero]at this;simp only [Nat.zero_add]at this;exact au.left (C:=[aj false v2 m F]) this
   refine⟨by omega,fun _=>⟨by omega,fun _=>?_⟩⟩;refine⟨_,nG (B:=[aj true v8 32 (dW s K (aJ S (bf F)) (hlen F+na) (oH F A) (m - hlen F - aY s) (cz F)),aj false v2 m F]) (x1:=aD 1 v8.v 0 (aY s) none) (x2:=aD 1 (aD 1 v2.v (hlen F) m none) (m - hlen F - aY s) (m - hlen F) none) (aK ..) (aK ..) (aY s) (aY s) (dW s K (aJ S (bf F)) (hlen F+na) (oH F A) (m - hlen F - aY s) (cz F)) (fun j=>cz F (m - hlen F - aY s+j)) (rZ _ _ _ _ _ _ _) (fun j=>tD _) (by omega) bs (au.right (A:=[aj true v8 32 (dW s K (aJ S (bf F)) (hlen F+na) (oH F A) (m - hlen F - aY s) (cz F))]) bg),?_⟩;rintro x hs ⟨rfl,rfl⟩;refine⟨_,rfl,rfl,?_⟩;have mP:mQ (aY s) (aY s) (dW s K (aJ S (bf F)) (hlen F+na) (oH F A) (m - hlen F - aY s) (cz F)) (fun j=>cz F (m - hlen F - aY s+j))=true↔iB s K S na A m F:=by
    unfold mQ iB w9;rw [decide_eq_true_iff,if_neg jo];exact⟨fun h=>⟨by omega,h.2⟩,fun h=>⟨rfl,h.2⟩⟩
   refine⟨fun eZ=> .inl ?_,fun heq=>?_⟩
   ·have:=De fun h=>eZ (mP.2 h)
    exact⟨by rw [this];decide,by rw [this];rfl⟩
   have LM:=mP.1 (ae6.1 heq);intro Rx;refine⟨_,vL v0,?_⟩;rintro x hs ⟨rfl,rfl⟩;refine⟨fun j=>(aJ S (bf F) j:Nat),rfl,rfl,?_⟩;intro K2 CH;rw [ra];have hC:=f_ hN (c:=0) (by decide);refine⟨_,dO (B:=[aj false v2 m F]) (x:=aD 1 (aD 1 v2.v (hlen F) m none) 0 (m - hlen F - aY s) none) (aK ..) bc CH v3 4 (by decide) (by decide) K (cA (aJ S (bf F)) 0) (cz F) hK hC tD (m - hlen F - aY s) (by omega) bx,?_⟩;rintro x hs ⟨v9,rfl,rfl⟩;refine⟨v9,(m - hlen F - aY s:Nat),fun j=>(cS 4 K (cA (aJ S (bf F)) 0) (cz F) j:Nat),rfl,rfl,?_⟩;refine .inr ⟨Ad LM,v9,rfl,?_⟩;unfold rY eg;rw [if_neg jo];rfl
theorem uG{B:List HP}{x0 x1 x2:Value}(h0:x0.oneCell'=true)(h1:x1.oneCell'=true)(h2:x2.oneCell'=true)(s aU kn na m:Nat)(K S A F:Nat→Nat)(hK: ∀j,K j<256)(hS: ∀j,S j<256)(hA: ∀j,A j<256)(hF: ∀j,F j<256)(hm:m≤9223372036854775807)(g0:au B (aB x0 kn K))(g1:au B (aB x1 na A))(g2:au B (aB x2 m F)):
  aw ae0 10 [.agg (.int .u16 (s:Int):: .int .u64 (aU:Int)::x0::(aeU (al .u8 12 fun j=>((S j:Nat):Int)) [])).toArray,x1,x2] B fun r hs=> ∃nw,Ac s kn aU na m K S A F r nw∧hs=B++nw:=by
 refine aw.fp (A:=[]) (L:=[aB x0 kn K,aB x1 na A,aB x2 m F]) (Q:=Ac s kn aU na m K S A F) ?_ (by simp) ?_ (SS g0 g1 g2)
 ·refine aw.post (Db s aU kn na m ⟨x0,h0⟩ ⟨x1,h1⟩ ⟨x2,h2⟩ K S A F hK hS hA hF hm) ?_;rintro r hs h;exact⟨_,bX.refl _,_,h,rfl⟩
 ·rintro v nw ⟨o,_,rfl⟩ h hh;simp only [afd,ae9,or_false]at hh;subst hh;rfl
theorem oZ{B:List HP}{x0 x1 x2:Value}(h0:x0.oneCell'=true)(h1:x1.oneCell'=true)(h2:x2.oneCell'=true)(s aU aS kn na nt:Nat)(K S A T:Nat→Nat)(hK: ∀j,K j<256)(hS: ∀j,S j<256)(hA: ∀j,A j<256)(hT: ∀j,T j<256)(oG:aU<18446744073709551616)(jN:aS<18446744073709551616)(g0:au B (aB x0 kn K))(g1:au B (aB x1 na A))(g2:au B (aB x2 nt T)):
  aw ae0 8 [.agg (.int .u16 (s:Int):: .int .u64 (aU:Int)::x0::(aeU (al .u8 12 fun j=>((S j:Nat):Int)) [])).toArray,.int .u64 (aS:Int),x1,x2] B fun r hs=> ∃nw,Af s kn aU aS na nt K S A T r nw∧hs=B++nw:=by
 refine aw.fp (A:=[]) (L:=[aB x0 kn K,aB x1 na A,aB x2 nt T]) (Q:=Af s kn aU aS na nt K S A T) ?_ (by simp) ?_ (SS g0 g1 g2)
 ·refine aw.post (Df s aU aS kn na nt ⟨x0,h0⟩ ⟨x1,h1⟩ ⟨x2,h2⟩ K S A T hK hS hA hT oG jN) ?_;rintro r hs h;exact⟨_,bX.refl _,_,h,rfl⟩
 ·rintro v nw ⟨o,_,rfl⟩ h hh;simp only [afd,ae9,or_false]at hh;subst hh;rfl
end Go.RX.Fm
