/- Frames. -/
import Derived.Test.YtmgbbbmdbpbeeaaGreatFmX
open Classical renaming not_not → ae6
open Go.Proofs.Tryz renaming prog → ae0
open Int renaming toNat → ag, toNat_natCast → afe
open List renaming getElem?_eq_some_iff → aeV, mem_cons → afd, not_mem_nil → ae9
namespace Go.RX.Fl
open Go Go.RX Go.Proofs Go.RX.Sh Go.RX.Fg Go.RX.Fi Go.RX.Fj Go.RX.Fk Go.Hd Go.Gh Go.Gc Go.Ae Go.RX.Fe Go.Se
theorem Rn(N:Nat→Nat): ∀j,j<16→aI (fun j=>((N j:Nat):Int)) 12 4 (aq (aq (aq (aq (fun _=>0) 0 0) 1 0) 2 0) 3 0) j=(cA N 0 j:Nat):=by
 intro j hj;unfold aI cA;by_cases c:j<12
 ·rw [if_neg (by omega),if_pos c]
 ·rw [if_pos (by omega),if_neg c];unfold aq
  repeat (first | rfl | split)
theorem E3(v0 v1 v2:V1)(K N T:Nat→Nat)(hK: ∀j,K j<256)(hN: ∀j,N j<256)(hT: ∀j,T j<256)(n:Nat)(hl:n≤140737488355328):
  aw ae0 74 [v0.v,v1.v,v2.v] [aj false v0 16 K,aj false v1 12 N,aj false v2 n T] fun r hs=> ∃o:V1,r=o.v∧hs=[aj true o n (cS 4 K (cA N 0) T)]:=by
 refine Lu _ (n:Int) (fun j=>(K j:Nat)) (fun j=>(N j:Nat)) (fun j=>(T j:Nat)) v0 v1 v2 ?_;unfold CU;refine⟨_,ni,?_⟩;rintro x hs ⟨v3,rfl,rfl⟩;refine⟨v3,fun j=>(sb j:Nat),rfl,rfl,?_⟩;refine⟨_,yr (B:=[d_ true v3,aj false v0 16 K]) v3.one v0.one 4 (.inl rfl) K hK (au.get 0 rfl) (au.get 1 rfl),?_⟩;rintro x hs ⟨v4,rfl,rfl⟩;refine⟨v4,(16*(4+7):Nat),fun j=>(wf 4 K j:Nat),rfl,rfl,?_⟩;intro _ _ _ v7;dsimp only [bo,bi,bn];rw [aW (Rn N)];refine⟨_,Fj.dO (B:=[d_ true v3,dy true v4 4 K,aj true v7 16 (cA N 0),aj false v2 n T]) v3.one v4.one v7.one v2.one 4 (by decide) (by decide) K (cA N 0) T hK (f_ hN (by decide)) hT n hl (au.get 0 rfl) (au.get 1 rfl) (au.get 2 rfl) (au.get 3 rfl),?_⟩;rintro x hs ⟨v8,rfl,rfl⟩;exact⟨v8,(n:Nat),fun j=>(cS 4 K (cA N 0) T j:Nat),rfl,rfl,v8,rfl,rfl⟩
theorem vA{B:List HP}{x0 x1 x2:Value}(h0:x0.oneCell'=true)(h1:x1.oneCell'=true)(h2:x2.oneCell'=true)(K N T:Nat→Nat)(hK: ∀j,K j<256)(hN: ∀j,N j<256)(hT: ∀j,T j<256)(n:Nat)(hl:n≤140737488355328)(g0:au B (aB x0 16 K))(g1:au B (aB x1 12 N))(g2:au B (aB x2 n T)):
  aw ae0 74 [x0,x1,x2] B fun r hs=> ∃o:V1,r=o.v∧hs=B++[aj true o n (cS 4 K (cA N 0) T)]:=
 bJ (E3 ⟨x0,h0⟩ ⟨x1,h1⟩ ⟨x2,h2⟩ K N T hK hN hT n hl) (SS g0 g1 g2)
def N6(x:Value)(n:Nat)(s:Nat):HP:=aE false 3 1 x n (aQ n [aO .i64 1 fun j=>(lD s j:Nat)])
def yw(o:V1)(n:Nat)(s:Nat):HP:=aE true 3 1 o.v n (aQ n [aO .i64 1 fun j=>(lD s j:Nat)])
theorem E4{B:List HP}{o:V1}{n s:Nat}(i:Nat)(h:B[i]? =some (yw o n s)):au B (N6 o.v n s):=by
 obtain⟨hl,he⟩:=aeV.1 h;have e:B=B.take i++[yw o n s]++B.drop (i+1):=by
  rw [List.append_assoc,←he];simp
 rw [e];exact au.mid au.own
theorem N7(s:Nat)(N:Nat→Nat)(na:Nat)(A:Nat→Nat)(nt:Nat)(Y:Nat→Nat):
  cl (8+8+8+12+na) (cl (8+8+8+12) (cl (8+8+8) (cl (8+8) (cl 8 (cJ na) (cJ nt)) (cJ (aY s))) N) A) Y=nm s N na A nt Y:=by
 unfold nm;rw [oh,oh,oh,oh]
theorem Un{s:Nat}(fA:isS s)(jo: ¬4≤s):Dc s=16∧gj s=48∧uD s=1∧aY s≤10∧0<aY s:=by
 rcases fA with h | h | h | h | h<;>subst h<;>first | (exact absurd (by decide) jo) | decide
theorem is4{s:Nat}(fA:isS s)(jo:4≤s):gj s=4*lF s∧aY s=16∧(lF s=4∨lF s=8):=by
 rcases fA with h | h | h | h | h<;>subst h<;>first | (exact absurd jo (by decide)) | decide
set_option maxHeartbeats 1000000 in
theorem E5(s:Nat)(fA:isS s)(jo: ¬4≤s)(v0 v1 v2 v3 v4:V1)(K N A Y:Nat→Nat)(hK: ∀j,K j<256)(hN: ∀j,N j<256)(hA: ∀j,A j<256)(hY: ∀j,Y j<256)(na nt:Nat)(hl:na+nt+1000≤140737488355328):
  aw ae0 75 [v0.v,v1.v,v2.v,v3.v,v4.v] [N6 v0.v 5 s,aj false v1 48 K,aj false v2 12 N,aj false v3 na A,aj false v4 nt Y] fun r hs=> ∃o:V1,r=o.v∧hs=[aj true o (aY s) (dW s K N na A nt Y)]:=by
 obtain⟨LL,OK,eh,et,ZV⟩:=Un fA jo;refine aw.post (p:=fun r hs=> ∃o:V1,r=aD 1 o.v 0 (aY s) none∧hs=[aj true o 32 (dW s K N na A nt Y)]) ?_ ?_;rotate_left
 ·rintro r hs ⟨o,rfl,rfl⟩;refine⟨_,Fm.bX.part (m:=aY s) (mx:=none) (by omega) (by simp) ZV,⟨aD 1 o.v 0 (aY s) none,aK ..⟩,rfl,?_⟩;unfold aj;rw [je,dX _ _ _ _ (by omega),je]
 refine Lv _ (na:Int) (nt:Int) (fun j=>(lD s j:Nat)) (fun j=>(K j:Nat)) (fun j=>(N j:Nat)) (fun j=>(A j:Nat)) (fun j=>(Y j:Nat)) v0 v1 v2 v3 v4 ?_;unfold CV;have r0:lD s 0=1:=eh;have r2:lD s 2=16:=LL;have r3:lD s 3=aY s:=rfl;dsimp only;rw [r0,r2,r3];refine⟨by omega,fun _=>⟨by omega,fun _=>?_⟩⟩;refine⟨_,pP na (by omega),?_⟩;rintro x hs ⟨v5,rfl,rfl⟩;refine⟨v5,fun j=>(cJ na j:Nat),rfl,rfl,?_⟩;refine⟨_,pP nt (by omega),?_⟩;rintro x hs ⟨v6,rfl,rfl⟩;refine⟨v6,fun j=>(cJ nt j:Nat),rfl,rfl,?_⟩;refine⟨_,pP (aY s) (by omega),?_⟩;rintro x hs ⟨v7,rfl,rfl⟩;refine⟨v7,fun j=>(cJ (aY s) j:Nat),rfl,rfl,?_⟩;intro b0;refine⟨_,GN (B:=[aj true v5 8 (cJ na),aj true v6 8 (cJ nt),aj true v7 8 (cJ (aY s)),aj false v2 12 N,aj false v3 na A,aj false v4 nt Y]) b0 v5.one v6.one v7.one v2.one v3.one v4.one 8 8 8 12 na nt (cJ na) (cJ nt) (cJ (aY s)) N A Y (by omega) (au.get 0 rfl) (au.get 1 rfl) (au.get 2 rfl) (au.get 3 rfl) (au.get 4 rfl) (au.get 5 rfl),?_⟩;rintro x hs ⟨v8,rfl,rfl⟩;rw [N7];refine⟨v8,(8+8+8+12+na+nt:Nat),fun j=>(nm s N na A nt Y j:Nat),rfl,rfl,?_⟩;refine⟨by omega,fun _=>⟨by decide,fun _=>?_⟩⟩;have bk:au [aj false v1 48 K,aj true v8 (8+8+8+12+na+nt) (nm s N na A nt Y)] (aB (aD 1 v1.v 16 48 none) 32 fun j=>K (16+j)):=
  au.left (C:=[aj true v8 (8+8+8+12+na+nt) (nm s N na A nt Y)]) (au.part (lo:=16) (hi:=48) (mx:=none) (au.view (v:=v1) (n:=48) (T:=K)) (by decide) (by decide) (by simp))
 refine⟨_,Fn.KD (B:=[aj false v1 48 K,aj true v8 (8+8+8+12+na+nt) (nm s N na A nt Y)]) (x:=aD 1 v1.v 16 48 none) (aK ..) v8.one (fun j=>K (16+j)) (nm s N na A nt Y) (fun j=>hK _) (IU hN hA hY na nt) 32 (by decide) (8+8+8+12+na+nt) (by omega) bk (au.get 1 rfl),?_⟩;rintro x hs ⟨v9,rfl,rfl⟩;refine⟨v9,(32:Nat),fun j=>(dW s K N na A nt Y j:Nat),rfl,rfl,?_⟩;exact⟨by omega,fun _=>⟨by omega,fun _=>⟨v9,rfl,rfl⟩⟩⟩
theorem vB{B:List HP}{x0 x1 x2 x3 x4:Value}(h0:x0.oneCell'=true)(h1:x1.oneCell'=true)(h2:x2.oneCell'=true)(h3:x3.oneCell'=true)(h4:x4.oneCell'=true)(s:Nat)(fA:isS s)(jo: ¬4≤s)(K N A Y:Nat→Nat)(hK: ∀j,K j<256)(hN: ∀j,N j<256)(hA: ∀j,A j<256)(hY: ∀j,Y j<256)(na nt:Nat)(hl:na+nt+1000≤140737488355328)
  (g0:au B (N6 x0 5 s)) (g1:au B (aB x1 48 K)) (g2:au B (aB x2 12 N)) (g3:au B (aB x3 na A)) (g4:au B (aB x4 nt Y)):
  aw ae0 75 [x0,x1,x2,x3,x4] B fun r hs=> ∃o:V1,r=o.v∧hs=B++[aj true o (aY s) (dW s K N na A nt Y)]:=
 bJ (E5 s fA jo ⟨x0,h0⟩ ⟨x1,h1⟩ ⟨x2,h2⟩ ⟨x3,h3⟩ ⟨x4,h4⟩ K N A Y hK hN hA hY na nt hl) (QZ g0 g1 g2 g3 g4)
set_option maxHeartbeats 1000000 in
theorem G4(s aS:Nat)(fA:isS s)(v0 v1 v2 v3:V1)(K S A T:Nat→Nat)(hK: ∀j,K j<256)(hS: ∀j,S j<256)(hA: ∀j,A j<256)(hT: ∀j,T j<256)(jN:aS<18446744073709551616)(na nt:Nat)(hl:na+nt+1000≤140737488355328):
  aw ae0 33 [.int .u16 (s:Int),v0.v,v1.v,.int .u64 (aS:Int),v2.v,v3.v] [aj false v0 (gj s) K,aj false v1 12 S,aj false v2 na A,aj false v3 nt T] fun r hs=> ∃o:V1,r=o.v∧hs=[aj true o (nt+aY s) (og s K (aJ S aS) na A nt T)]:=by
 refine aw.post (p:=fun r hs=> ∃o:V1,r=o.v∧(hs[0]? =some (aj true o (nt+aY s) (og s K (aJ S aS) na A nt T))∨hs[1]? =some (aj true o (nt+aY s) (og s K (aJ S aS) na A nt T)))) ?_ ?_;rotate_left
 ·rintro r hs ⟨o,rfl,h | h⟩
  ·exact⟨_,bX.lY 0 h,o,rfl,rfl⟩
  ·exact⟨_,bX.lY 1 h,o,rfl,rfl⟩
 refine O9 _ (s:Int) (aS:Int) (gj s:Nat) (na:Int) (nt:Int) (fun j=>(K j:Nat)) (fun j=>(S j:Nat)) (fun j=>(A j:Nat)) (fun j=>(T j:Nat)) v0 v1 v2 v3 ?_;unfold Hz;have hN:=mO hS aS;refine⟨_,qi (B:=[]) s,?_⟩;rintro x hs ⟨nw,⟨v4,rn,rfl,rfl,Uo⟩,rfl⟩;have N8:rn=5:=by
  rcases Uo with⟨_,h⟩ | ⟨h,_⟩
  ·exact h
  ·exact absurd fA h
 subst N8;refine⟨v4,(5:Nat),fun j=>(lD s j:Nat),rfl,rfl,?_⟩;refine⟨_,vq (B:=[aj false v1 12 S]) v1.one S hS aS jN (au.get 0 rfl),?_⟩;rintro x hs ⟨v5,rfl,rfl⟩;refine⟨v5,fun j=>(aJ S aS j:Nat),rfl,rfl,?_⟩;refine⟨fun h4=>?_,fun h4=>?_⟩
 ·have jo:4≤s:=by omega
  obtain⟨ek,et,en⟩:=is4 fA jo;refine⟨_,AO (B:=[aj false v0 (gj s) K]) v0.one (lF s) en K hK (by rw [←ek];exact au.get 0 rfl),?_⟩;rintro x hs ⟨v6,v7,rfl,rfl⟩;refine⟨v6,v7,(16*(lF s+7):Nat),fun j=>(sb j:Nat),fun j=>(wf (lF s) K j:Nat),rfl,rfl,?_⟩;refine⟨_,EV (B:=[d_ true v6,dy true v7 (lF s) K,aj true v5 12 (aJ S aS),aj false v2 na A,aj false v3 nt T]) v6.one v7.one v5.one v2.one v3.one (lF s) (by omega) (by omega) K (aJ S aS) A T hK hN hA hT na nt (by omega) (au.get 0 rfl) (au.get 1 rfl) (au.get 2 rfl) (au.get 3 rfl) (au.get 4 rfl),?_⟩;rintro x hs ⟨v8,rfl,rfl⟩;refine⟨v8,(nt+16:Nat),fun j=>(gE (lF s) K (aJ S aS) na A nt T j:Nat),rfl,rfl,v8,rfl,.inr ?_⟩;unfold og;rw [if_pos jo,et];rfl
 ·have jo: ¬4≤s:=by omega
  obtain⟨LL,OK,eh,et,ZV⟩:=Un fA jo;have r2:lD s 2=16:=LL;dsimp only;rw [r2,OK];refine⟨by omega,fun _=>⟨by decide,fun _=>⟨by decide,fun _=>?_⟩⟩⟩;have bk:au [aj false v0 48 K,aj true v5 12 (aJ S aS),aj false v3 nt T] (aB (aD 1 v0.v 0 16 none) 16 K):=by
   have:=au.part (lo:=0) (hi:=16) (mx:=none) (au.view (v:=v0) (n:=48) (T:=K)) (by decide) (by decide) (by simp);simp only [Nat.zero_add]at this;exact au.left (C:=[aj true v5 12 (aJ S aS),aj false v3 nt T]) this
  refine⟨_,vA (B:=[aj false v0 48 K,aj true v5 12 (aJ S aS),aj false v3 nt T]) (x0:=aD 1 v0.v 0 16 none) (aK ..) v5.one v3.one K (aJ S aS) T hK hN hT nt (by omega) bk (au.get 1 rfl) (au.get 2 rfl),?_⟩;rintro x hs ⟨v6,rfl,rfl⟩;have eY:cS 4 K (cA (aJ S aS) 0) T=eg s K (aJ S aS) T:=by unfold eg;rw [if_neg jo]
  have hY:=yq (s:=s) hK hN hT;rw [eY];refine⟨v6,(nt:Nat),fun j=>(eg s K (aJ S aS) T j:Nat),rfl,rfl,?_⟩;intro v7;refine⟨by omega,fun _=>⟨by omega,fun _=>⟨by omega,fun _ v8=>?_⟩⟩⟩;refine⟨_,vB (B:=[yw v4 5 s,aj false v0 48 K,aj true v5 12 (aJ S aS),aj false v2 na A,aj true v6 nt (eg s K (aJ S aS) T)]) v4.one v0.one v5.one v2.one v6.one s fA jo K (aJ S aS) A (eg s K (aJ S aS) T) hK hN hA hY na nt hl (E4 0 rfl) (au.get 1 rfl) (au.get 2 rfl) (au.get 3 rfl) (au.get 4 rfl),?_⟩;rintro x hs ⟨v9,rfl,rfl⟩;refine⟨v9,(aY s:Nat),fun j=>(dW s K (aJ S aS) na A nt (eg s K (aJ S aS) T) j:Nat),rfl,rfl,?_⟩;refine⟨by omega,fun _=>⟨by omega,fun _=>⟨by omega,fun _ v10=>⟨v10,rfl,.inl ?_⟩⟩⟩⟩;show some (aE true 5 1 v10.v _ _)=_;congr 1;unfold aj;rw [show ag ((nt:Int)+((aY s:Nat):Int))=nt+aY s by omega,afe,afe];congr 1;unfold og;rw [if_neg jo];exact aW (kL (fun _ _=>rfl) fun _ _=>rfl)
theorem G5{B:List HP}{x0 x1 x2 x3:Value}(h0:x0.oneCell'=true)(h1:x1.oneCell'=true)(h2:x2.oneCell'=true)(h3:x3.oneCell'=true)(s aS:Nat)(fA:isS s)(K S A T:Nat→Nat)(hK: ∀j,K j<256)(hS: ∀j,S j<256)(hA: ∀j,A j<256)(hT: ∀j,T j<256)(jN:aS<18446744073709551616)(na nt:Nat)(hl:na+nt+1000≤140737488355328)
  (g0:au B (aB x0 (gj s) K)) (g1:au B (aB x1 12 S)) (g2:au B (aB x2 na A)) (g3:au B (aB x3 nt T)):
  aw ae0 33 [.int .u16 (s:Int),x0,x1,.int .u64 (aS:Int),x2,x3] B fun r hs=> ∃o:V1,r=o.v∧hs=B++[aj true o (nt+aY s) (og s K (aJ S aS) na A nt T)]:=
 bJ (G4 s aS fA ⟨x0,h0⟩ ⟨x1,h1⟩ ⟨x2,h2⟩ ⟨x3,h3⟩ K S A T hK hS hA hT jN na nt hl) (Np g0 g1 g2 g3)
def yx(s:Nat)(K N:Nat→Nat)(na:Nat)(A:Nat→Nat)(m:Nat)(T:Nat→Nat)(r:Value)(nw:List HP):Prop:=
 ∃(o:V1) (L:Nat) (q:Bool),r= .tuple #[o.v,.bool q]∧nw=[aj true o L (eg s K N T)]∧((w9 s K N na A m T∧L=m - aY s∧q=true)∨(¬w9 s K N na A m T∧L=0∧q=false))
set_option maxHeartbeats 2000000 in
theorem Cj(s aS:Nat)(fA:isS s)(v0 v1 v2 v3:V1)(K S A T:Nat→Nat)(hK: ∀j,K j<256)(hS: ∀j,S j<256)(hA: ∀j,A j<256)(hT: ∀j,T j<256)(jN:aS<18446744073709551616)(na m:Nat)(hl:na+m+1000≤140737488355328):
  aw ae0 36 [.int .u16 (s:Int),v0.v,v1.v,.int .u64 (aS:Int),v2.v,v3.v] [aj false v0 (gj s) K,aj false v1 12 S,aj false v2 na A,aj false v3 m T] (yx s K (aJ S aS) na A m T):=by
 refine aw.post (p:=fun r hs=>yx s K (aJ S aS) na A m T r hs∨(¬w9 s K (aJ S aS) na A m T∧r= .tuple #[.slice none 0 0,.bool false])) ?_ ?_;rotate_left
 ·rintro r hs (h | ⟨h,rfl⟩)
  ·exact⟨_,bX.refl _,h⟩
  ·exact⟨_,bX.trans (bX.sub (List.nil_sublist _)) (jG (t:=5)),⟨.slice none 0 0,rfl⟩,0,false,rfl,rfl,.inr ⟨h,rfl,rfl⟩⟩
 refine Jg _ (s:Int) (aS:Int) (gj s:Nat) (na:Int) (m:Int) (fun j=>(K j:Nat)) (fun j=>(S j:Nat)) (fun j=>(A j:Nat)) (fun j=>(T j:Nat)) v0 v1 v2 v3 ?_;unfold zU;have hN:=mO hS aS;refine⟨_,qi (B:=[]) s,?_⟩;rintro x hs ⟨nw,⟨v4,rn,rfl,rfl,Uo⟩,rfl⟩;have N8:rn=5:=by
  rcases Uo with⟨_,h⟩ | ⟨h,_⟩
  ·exact h
  ·exact absurd fA h
 subst N8;refine⟨v4,(5:Nat),fun j=>(lD s j:Nat),rfl,rfl,?_⟩;refine⟨_,vq (B:=[aj false v1 12 S]) v1.one S hS aS jN (au.get 0 rfl),?_⟩;rintro x hs ⟨v5,rfl,rfl⟩;refine⟨v5,fun j=>(aJ S aS j:Nat),rfl,rfl,?_⟩;refine⟨fun h4=>?_,fun h4=>?_⟩
 ·have jo:4≤s:=by omega
  obtain⟨ek,et,en⟩:=is4 fA jo;refine⟨_,AO (B:=[aj false v0 (gj s) K]) v0.one (lF s) en K hK (by rw [←ek];exact au.get 0 rfl),?_⟩;rintro x hs ⟨v6,v7,rfl,rfl⟩;refine⟨v6,v7,(16*(lF s+7):Nat),fun j=>(sb j:Nat),fun j=>(wf (lF s) K j:Nat),rfl,rfl,?_⟩;have hko:=EX (B:=[d_ true v6,dy true v7 (lF s) K,aj true v5 12 (aJ S aS),aj false v2 na A,aj false v3 m T]) v6.one v7.one v5.one v2.one v3.one (lF s) (by omega) (by omega) K (aJ S aS) A T hK hN hA hT na m (by omega) (au.get 0 rfl) (au.get 1 rfl) (au.get 2 rfl) (au.get 3 rfl) (au.get 4 rfl);have mP:=w7 fA jo K (aJ S aS) na A m T;have eb:eg s K (aJ S aS) T=de (lF s) K (aJ S aS) T:=by unfold eg;rw [if_pos jo]
  refine⟨fun r hs=> ∃nw,yx s K (aJ S aS) na A m T r nw∧hs=[d_ true v6,dy true v7 (lF s) K,aj true v5 12 (aJ S aS),aj false v2 na A,aj false v3 m T]++nw,aw.post hko ?_,?_⟩
  ·rintro r hs ⟨nw,⟨ho,o,rfl,rfl⟩ | ⟨ho,rfl,rfl⟩,rfl⟩
   ·exact⟨_,bX.refl _,_,⟨o,m - 16,true,rfl,rfl,.inl ⟨mP.2 ho,by rw [et],rfl⟩⟩,by rw [eb]⟩
   ·exact⟨_,Fm.bX.front (A:=[d_ true v6,dy true v7 (lF s) K,aj true v5 12 (aJ S aS),aj false v2 na A,aj false v3 m T]) (jG (t:=5)),_,⟨⟨.slice none 0 0,rfl⟩,0,false,rfl,rfl,.inr ⟨fun h=>ho (mP.1 h),rfl,rfl⟩⟩,rfl⟩
  rintro x hs ⟨nw,⟨v8,L,q,rfl,rfl,hq⟩,rfl⟩;exact⟨v8,(L:Nat),fun j=>(eg s K (aJ S aS) T j:Nat),q,rfl,rfl,.inl ⟨v8,L,q,rfl,rfl,hq⟩⟩
 ·have jo: ¬4≤s:=by omega
  obtain⟨LL,OK,eh,et,ZV⟩:=Un fA jo;have r2:lD s 2=16:=LL;have r3:lD s 3=aY s:=rfl;dsimp only;rw [r2,r3,OK];by_cases q9:m<aY s
  ·iterate 11 refine⟨by omega,fun _=>?_⟩
   refine⟨fun h=>by omega,fun _=> .inr ⟨fun h=>by have:=h.1;omega,rfl⟩⟩
  have e2:(m:Int) - ((aY s:Nat):Int)=((m - aY s:Nat):Int):=by omega
  rw [e2]
  iterate 11 refine⟨by omega,fun _=>?_⟩
  refine⟨fun _=>?_,fun h=>by omega⟩;have bx:au [aj false v3 m T] (aB (aD 1 v3.v 0 (m - aY s) none) (m - aY s) T):=by
   have:=au.part (lo:=0) (hi:=m - aY s) (mx:=none) (au.view (v:=v3) (n:=m) (T:=T)) (by omega) (by omega) (by simp);rw [Nat.sub_zero]at this;simp only [Nat.zero_add]at this;exact this
  refine⟨_,vB (B:=[yw v4 5 s,aj false v0 48 K,aj true v5 12 (aJ S aS),aj false v2 na A,aj false v3 m T]) (x4:=aD 1 v3.v 0 (m - aY s) none) v4.one v0.one v5.one v2.one (aK ..) s fA jo K (aJ S aS) A T hK hN hA hT na (m - aY s) (by omega) (E4 0 rfl) (au.get 1 rfl) (au.get 2 rfl) (au.get 3 rfl) (au.right (A:=[yw v4 5 s,aj false v0 48 K,aj true v5 12 (aJ S aS),aj false v2 na A]) bx),?_⟩;rintro x hs ⟨v6,rfl,rfl⟩;refine⟨v6,(aY s:Nat),fun j=>(dW s K (aJ S aS) na A (m - aY s) T j:Nat),rfl,rfl,?_⟩;have e3:(m:Int) - ((m - aY s:Nat):Int)=((aY s:Nat):Int):=by omega
  rw [e3];have mP:cj (g9 (fun j=>((dW s K (aJ S aS) na A (m - aY s) T j:Nat):Int)) ((aY s:Nat):Int))=cj (g9 (aA (fun j=>((T j:Nat):Int)) (ag ((m - aY s:Nat):Int))) ((aY s:Nat):Int))↔w9 s K (aJ S aS) na A m T:=by
   refine(B7 (n:=aY s) (m:=aY s) (A:=dW s K (aJ S aS) na A (m - aY s) T) (B:=fun j=>T (m - aY s+j)) (F:=fun j=>((dW s K (aJ S aS) na A (m - aY s) T j:Nat):Int)) (G:=aA (fun j=>((T j:Nat):Int)) (ag ((m - aY s:Nat):Int))) (fun _ _=>rfl) (fun _ _=>rfl) (rZ _ _ _ _ _ _ _) (fun j=>hT _)).trans ?_;unfold w9;rw [if_neg jo];exact⟨fun h=>⟨by omega,h.2⟩,fun h=>⟨rfl,h.2⟩⟩
  refine⟨fun eZ=> .inr ⟨fun h=>eZ (mP.2 h),rfl⟩,fun heq=>?_⟩;have LM:=mP.1 (ae6.1 heq);refine⟨by omega,fun _=>⟨by decide,fun _=>⟨by decide,fun _=>⟨by omega,fun _=>⟨by omega,fun _=>?_⟩⟩⟩⟩⟩;have bk:au [aj false v0 48 K,aj true v5 12 (aJ S aS),aj false v3 m T] (aB (aD 1 v0.v 0 16 none) 16 K):=by
   have:=au.part (lo:=0) (hi:=16) (mx:=none) (au.view (v:=v0) (n:=48) (T:=K)) (by decide) (by decide) (by simp);simp only [Nat.zero_add]at this;exact au.left (C:=[aj true v5 12 (aJ S aS),aj false v3 m T]) this
  refine⟨_,vA (B:=[aj false v0 48 K,aj true v5 12 (aJ S aS),aj false v3 m T]) (x0:=aD 1 v0.v 0 16 none) (x2:=aD 1 v3.v 0 (m - aY s) none) (aK ..) v5.one (aK ..) K (aJ S aS) T hK hN hT (m - aY s) (by omega) bk (au.get 1 rfl) (au.right (A:=[aj false v0 48 K,aj true v5 12 (aJ S aS)]) bx),?_⟩;rintro x hs ⟨v7,rfl,rfl⟩;have eY:cS 4 K (cA (aJ S aS) 0) T=eg s K (aJ S aS) T:=by unfold eg;rw [if_neg jo]
  rw [eY];exact⟨v7,(m - aY s:Nat),fun j=>(eg s K (aJ S aS) T j:Nat),rfl,rfl,.inl ⟨v7,m - aY s,true,rfl,rfl,.inl ⟨LM,rfl,rfl⟩⟩⟩
theorem Cm{B:List HP}{x0 x1 x2 x3:Value}(h0:x0.oneCell'=true)(h1:x1.oneCell'=true)(h2:x2.oneCell'=true)(h3:x3.oneCell'=true)(s aS:Nat)(fA:isS s)(K S A T:Nat→Nat)(hK: ∀j,K j<256)(hS: ∀j,S j<256)(hA: ∀j,A j<256)(hT: ∀j,T j<256)(jN:aS<18446744073709551616)(na m:Nat)(hl:na+m+1000≤140737488355328)
  (g0:au B (aB x0 (gj s) K)) (g1:au B (aB x1 12 S)) (g2:au B (aB x2 na A)) (g3:au B (aB x3 m T)):
  aw ae0 36 [.int .u16 (s:Int),x0,x1,.int .u64 (aS:Int),x2,x3] B fun r hs=> ∃nw,yx s K (aJ S aS) na A m T r nw∧hs=B++nw:=by
 refine aw.fp (A:=[]) (L:=[aB x0 (gj s) K,aB x1 12 S,aB x2 na A,aB x3 m T]) (Q:=yx s K (aJ S aS) na A m T) ?_ (by simp) ?_ (Np g0 g1 g2 g3)
 ·refine aw.post (Cj s aS fA ⟨x0,h0⟩ ⟨x1,h1⟩ ⟨x2,h2⟩ ⟨x3,h3⟩ K S A T hK hS hA hT jN na m hl) ?_;rintro r hs h;exact⟨_,bX.refl _,_,h,rfl⟩
 ·rintro v nw ⟨o,_,_,_,rfl,_⟩ h hh;simp only [afd,ae9,or_false]at hh;subst hh;rfl
open Go Go.RX Go.Proofs Go.RX.Sh Go.RX.Fg Go.RX.Fi Go.RX.Fj Go.RX.Fk Go.Hd Go.Gh Go.Gc Go.Ae Go.RX.Fe Go.Se
open Classical in
noncomputable def mG(s kn na:Nat):Nat:=if¬isS s then 130 else if kn≠gj s then 2 else if 1024<na then 3 else 0
theorem KG(s kn na:Nat)(v0 v1:V1)(K A:Nat→Nat):aw ae0 30 [.int .u16 (s:Int),v0.v,v1.v] [aj false v0 kn K,aj false v1 na A] fun r hs=>r= .int .i64 (mG s kn na:Nat)∧hs=[]:=by
 refine aw.post (p:=fun r _=>r= .int .i64 (mG s kn na:Nat)) ?_ fun v hs h=>⟨[],bX.sub (List.nil_sublist _),h,rfl⟩
 refine O_ _ (s:Int) (kn:Int) (na:Int) (fun j=>(K j:Nat)) (fun j=>(A j:Nat)) v0 v1 ?_;unfold HB;refine⟨_,qi (B:=[]) s,?_⟩;rintro x hs ⟨nw,⟨v4,rn,rfl,rfl,Uo⟩,rfl⟩;refine⟨v4,(rn:Nat),fun j=>(lD s j:Nat),rfl,rfl,?_⟩;rcases Uo with⟨fA,rfl⟩ | ⟨fA,rfl⟩
 ·have Dd: ¬¬isS s:=ae6.2 fA;have r1:lD s 1=gj s:=rfl;dsimp only;rw [r1];refine⟨by omega,fun _=>⟨fun h=>by omega,fun _=>⟨by omega,fun _=>⟨by omega,fun _=>⟨fun h=>?_,fun h=>⟨by omega,fun _=>⟨fun h2=>?_,fun h2=>?_⟩⟩⟩⟩⟩⟩⟩
  ·unfold mG;rw [if_neg Dd,if_pos (by omega)];rfl
  ·unfold mG;rw [if_neg Dd,if_neg (by omega),if_pos (by omega)];rfl
  ·unfold mG;rw [if_neg Dd,if_neg (by omega),if_neg (by omega)];rfl
 ·refine⟨by omega,fun _=>⟨fun _=>?_,fun h=>absurd rfl h⟩⟩;unfold mG;rw [if_pos fA];rfl
theorem AS{B:List HP}{x0 x1:Value}(h0:x0.oneCell'=true)(h1:x1.oneCell'=true)(s kn na:Nat)(K A:Nat→Nat)(g0:au B (aB x0 kn K))(g1:au B (aB x1 na A)):aw ae0 30 [.int .u16 (s:Int),x0,x1] B fun r hs=>r= .int .i64 (mG s kn na:Nat)∧hs=B:=
 j6 (KG s kn na ⟨x0,h0⟩ ⟨x1,h1⟩ K A) (EG g0 g1)
theorem N9{s kn na:Nat}(h:mG s kn na=0):isS s∧kn=gj s∧na≤1024:=by
 unfold mG at h;split at h
 ·exact absurd h (by decide)
 rename_i c1;split at h
 ·exact absurd h (by decide)
 split at h
 ·exact absurd h (by decide)
 exact⟨ae6.1 c1,by omega,by omega⟩
theorem KH{s kn na nt:Nat}(h:mG s kn na≠0):eW s kn na nt=mG s kn na:=by
 unfold mG at h ⊢;unfold eW;split
 ·rfl
 split
 ·rfl
 split
 ·rfl
 ·rename_i c1 c2 c3;rw [if_neg c1,if_neg c2,if_neg c3]at h;exact absurd rfl h
theorem KJ{s kn aU na m:Nat}{K S A F:Nat→Nat}(h:mG s kn na≠0):cN s kn aU K S na A m F=mG s kn na:=by
 unfold mG at h ⊢;unfold cN;split
 ·rfl
 split
 ·rfl
 split
 ·rfl
 ·rename_i c1 c2 c3;rw [if_neg c1,if_neg c2,if_neg c3]at h;exact absurd rfl h
set_option maxHeartbeats 1000000 in
theorem Cn(s aU aS kn na nt:Nat)(v0 v1 v2 v3:V1)(K S A T:Nat→Nat)(hK: ∀j,K j<256)(hS: ∀j,S j<256)(hA: ∀j,A j<256)(hT: ∀j,T j<256)(oG:aU<18446744073709551616)(jN:aS<18446744073709551616):
  aw ae0 9 [.int .u16 (s:Int),.int .u64 (aU:Int),v0.v,v1.v,.int .u64 (aS:Int),v2.v,v3.v] [aj false v0 kn K,aj false v1 12 S,aj false v2 na A,aj false v3 nt T] (Fm.Af s kn aU aS na nt K S A T):=by
 refine aw.post (p:=fun r hs=>(eW s kn na nt≠0∧r= .tuple #[.slice none 0 0,.int .i64 (eW s kn na nt:Nat)])∨(eW s kn na nt=0∧∃o:V1,r= .tuple #[o.v,.int .i64 0]∧hs=[aj true o (bN aU aS+(nt+aY s)) (eX s K S aU aS na A nt T)])) ?_ ?_;rotate_left
 ·rintro r hs (⟨h,rfl⟩ | ⟨h,o,rfl,rfl⟩)
  ·refine⟨_,bX.trans (bX.sub (List.nil_sublist _)) (jG (t:=5)),⟨.slice none 0 0,rfl⟩,rfl,?_⟩;unfold np;rw [if_neg h];rfl
  ·refine⟨_,bX.refl _,o,by rw [h];rfl,?_⟩;unfold np;rw [if_pos h]
 refine Jh _ (s:Int) (aU:Int) (aS:Int) (kn:Int) (na:Int) (nt:Int) (fun j=>(K j:Nat)) (fun j=>(S j:Nat)) (fun j=>(A j:Nat)) (fun j=>(T j:Nat)) v0 v1 v2 v3 ?_;unfold zV;refine⟨_,AS (B:=[aj false v0 kn K,aj false v2 na A]) v0.one v2.one s kn na K A (au.get 0 rfl) (au.get 1 rfl),?_⟩;rintro x hs ⟨rfl,rfl⟩;refine⟨(mG s kn na:Nat),rfl,rfl,?_⟩;refine⟨fun h=> .inl ?_,fun h=>⟨by omega,fun _=>⟨fun h4=> .inl ?_,fun h4=>?_⟩⟩⟩
 ·have h0:mG s kn na≠0:=fun h0=>h (by rw [h0];rfl)
  rw [KH (nt:=nt) h0];exact⟨h0,rfl⟩
 all_goals
  obtain⟨fA,qZ,hna⟩:=N9 (show mG s kn na=0 by omega)
 ·have:=Fm.IX (na:=na) (nt:=nt) fA qZ (by omega) (by omega);rw [this];exact⟨by decide,rfl⟩
 have j9:=Fm.s6 (na:=na) (nt:=nt) fA qZ (by omega) (by omega);have X_:=EO aU aS;have hH:=pN aU aS;have K8:=NK aU aS hA;have uE:aY s≤16:=by
  rcases fA with h | h | h | h | h<;>subst h<;>decide
 subst qZ;refine⟨_,uk aU aS oG jN,?_⟩;rintro x hs ⟨v4,rfl,rfl⟩;refine⟨v4,(bN aU aS:Nat),fun j=>(dx aU aS j:Nat),rfl,rfl,?_⟩;intro b0;refine⟨_,rI (B:=[aj true v4 (bN aU aS) (dx aU aS),aj false v2 na A]) b0 v4.one v2.one (bN aU aS) na (dx aU aS) A (by omega) (au.get 0 rfl) (au.get 1 rfl),?_⟩;rintro x hs ⟨v5,rfl,rfl⟩;refine⟨v5,(bN aU aS+na:Nat),fun j=>(BZ aU aS A j:Nat),rfl,rfl,?_⟩;refine⟨_,G5 (B:=[aj false v0 (gj s) K,aj false v1 12 S,aj true v5 (bN aU aS+na) (BZ aU aS A),aj false v3 nt T]) v0.one v1.one v5.one v3.one s aS fA K S (BZ aU aS A) T hK hS K8 hT jN (bN aU aS+na) nt (by omega) (au.get 0 rfl) (au.get 1 rfl) (au.get 2 rfl) (au.get 3 rfl),?_⟩;rintro x hs ⟨v6,rfl,rfl⟩;refine⟨v6,(nt+aY s:Nat),fun j=>(og s K (aJ S aS) (bN aU aS+na) (BZ aU aS A) nt T j:Nat),rfl,rfl,?_⟩;intro b1;refine⟨_,rI (B:=[aj true v4 (bN aU aS) (dx aU aS),aj true v6 (nt+aY s) (og s K (aJ S aS) (bN aU aS+na) (BZ aU aS A) nt T)]) b1 v4.one v6.one (bN aU aS) (nt+aY s) (dx aU aS) (og s K (aJ S aS) (bN aU aS+na) (BZ aU aS A) nt T) (by omega) (au.get 0 rfl) (au.get 1 rfl),?_⟩;rintro x hs ⟨v7,rfl,rfl⟩;exact⟨v7,(bN aU aS+(nt+aY s):Nat),fun j=>(eX s K S aU aS na A nt T j:Nat),rfl,rfl,.inr ⟨j9,v7,rfl,rfl⟩⟩
theorem Co{B:List HP}{x0 x1 x2 x3:Value}(h0:x0.oneCell'=true)(h1:x1.oneCell'=true)(h2:x2.oneCell'=true)(h3:x3.oneCell'=true)(s aU aS kn na nt:Nat)(K S A T:Nat→Nat)(hK: ∀j,K j<256)(hS: ∀j,S j<256)(hA: ∀j,A j<256)(hT: ∀j,T j<256)(oG:aU<18446744073709551616)(jN:aS<18446744073709551616)
  (g0:au B (aB x0 kn K)) (g1:au B (aB x1 12 S)) (g2:au B (aB x2 na A)) (g3:au B (aB x3 nt T)):
  aw ae0 9 [.int .u16 (s:Int),.int .u64 (aU:Int),x0,x1,.int .u64 (aS:Int),x2,x3] B fun r hs=> ∃nw,Fm.Af s kn aU aS na nt K S A T r nw∧hs=B++nw:=by
 refine aw.fp (A:=[]) (L:=[aB x0 kn K,aB x1 12 S,aB x2 na A,aB x3 nt T]) (Q:=Fm.Af s kn aU aS na nt K S A T) ?_ (by simp) ?_ (Np g0 g1 g2 g3)
 ·refine aw.post (Cn s aU aS kn na nt ⟨x0,h0⟩ ⟨x1,h1⟩ ⟨x2,h2⟩ ⟨x3,h3⟩ K S A T hK hS hA hT oG jN) ?_;rintro r hs h;exact⟨_,bX.refl _,_,h,rfl⟩
 ·rintro v nw ⟨o,_,rfl⟩ h hh;simp only [afd,ae9,or_false]at hh;subst hh;rfl
set_option maxHeartbeats 1000000 in
theorem Cp(s aU kn na m:Nat)(v0 v1 v2 v3:V1)(K S A F:Nat→Nat)(hK: ∀j,K j<256)(hS: ∀j,S j<256)(hA: ∀j,A j<256)(hF: ∀j,F j<256)(hm:m≤9223372036854775807):
  aw ae0 11 [.int .u16 (s:Int),.int .u64 (aU:Int),v0.v,v1.v,v2.v,v3.v] [aj false v0 kn K,aj false v1 12 S,aj false v2 na A,aj false v3 m F] (Fm.Ac s kn aU na m K S A F):=by
 refine aw.post (p:=fun r hs=>(cN s kn aU K S na A m F≠0∧r= .tuple #[.slice none 0 0,.int .u64 0,.int .i64 (cN s kn aU K S na A m F:Nat)])∨(cN s kn aU K S na A m F=0∧∃o:V1,r= .tuple #[o.v,.int .u64 (bf F:Nat),.int .i64 0]∧hs=[aj true o (m - hlen F - aY s) (rY s K S F)])) ?_ ?_;rotate_left
 ·rintro r hs (⟨h,rfl⟩ | ⟨h,o,rfl,rfl⟩)
  ·refine⟨_,bX.trans (bX.sub (List.nil_sublist _)) (jG (t:=5)),⟨.slice none 0 0,rfl⟩,?_,?_⟩
   ·unfold uB;rw [if_neg h];rfl
   ·unfold wY;rw [if_neg h];rfl
  ·refine⟨_,bX.refl _,o,?_,?_⟩
   ·unfold uB;rw [if_pos h,h];rfl
   ·unfold wY;rw [if_pos h]
 refine Ji _ (s:Int) (aU:Int) (kn:Int) (na:Int) (m:Int) (fun j=>(K j:Nat)) (fun j=>(S j:Nat)) (fun j=>(A j:Nat)) (fun j=>(F j:Nat)) v0 v1 v2 v3 ?_;unfold zW;refine⟨_,AS (B:=[aj false v0 kn K,aj false v2 na A]) v0.one v2.one s kn na K A (au.get 0 rfl) (au.get 1 rfl),?_⟩;rintro x hs ⟨rfl,rfl⟩;refine⟨(mG s kn na:Nat),rfl,rfl,?_⟩;refine⟨fun h=> .inl ?_,fun h=>?_⟩
 ·have h0:mG s kn na≠0:=fun h0=>h (by rw [h0];rfl)
  rw [KJ (aU:=aU) (m:=m) (K:=K) (S:=S) (A:=A) (F:=F) h0];exact⟨h0,rfl⟩
 obtain⟨fA,qZ,hna⟩:=N9 (show mG s kn na=0 by omega);have Dd: ¬¬isS s:=ae6.2 fA;have uE:aY s≤16:=by
  rcases fA with h | h | h | h | h<;>subst h<;>decide
 refine⟨_,q8 v3.one m F hF (B:=[aj false v3 m F]) au.view,?_⟩;rintro x hs ⟨⟨ka,kb,kc,rfl,hk⟩,rfl⟩;refine⟨(ka:Nat),(kb:Nat),(kc:Nat),rfl,rfl,?_⟩;intro b0;rcases hk with⟨hh,rfl,rfl,rfl⟩ | ⟨hh,rfl⟩
 rotate_left
 ·have:cN s kn aU K S na A m F=9:=by unfold cN;rw [if_neg Dd,if_neg (by omega),if_neg (by omega),if_pos hh]
  exact⟨fun _=> .inl ⟨by rw [this];decide,by rw [this];rfl⟩,fun h=>absurd rfl h⟩
 have Pw: ¬¬nE m F:=ae6.2 hh;have LJ:hlen F≤m:=hh.1;have X_:=HF hF;have hh1:1≤hlen F:=by unfold hlen;omega
 refine⟨fun h=>by omega,fun _=>⟨fun oG=> .inl ?_,fun oG=>⟨by omega,fun _=>⟨by omega,fun _=>⟨by omega,fun _=>?_⟩⟩⟩⟩⟩
 ·have:cN s kn aU K S na A m F=4:=by unfold cN;rw [if_neg Dd,if_neg (by omega),if_neg (by omega),if_neg Pw,if_pos (by omega)]
  exact⟨by rw [this];decide,by rw [this];rfl⟩
 refine⟨_,qi (B:=[]) s,?_⟩;rintro x hs ⟨nw,⟨v4,rn,rfl,rfl,Uo⟩,rfl⟩;have N8:rn=5:=by
  rcases Uo with⟨_,h⟩ | ⟨h,_⟩
  ·exact h
  ·exact absurd fA h
 subst N8;refine⟨v4,(5:Nat),fun j=>(lD s j:Nat),rfl,rfl,?_⟩;have r3:lD s 3=aY s:=rfl;dsimp only;rw [r3]
 iterate 3 refine⟨by omega,fun _=>?_⟩
 refine⟨fun h5=> .inl ?_,fun h5=>⟨by omega,fun _=>⟨by omega,fun _=>?_⟩⟩⟩
 ·have:cN s kn aU K S na A m F=3:=by unfold cN;rw [if_neg Dd,if_neg (by omega),if_neg (by omega),if_neg Pw,if_neg (by omega),if_pos (by omega)]
  exact⟨by rw [this];decide,by rw [this];rfl⟩
 have De: ¬iB s K S na A m F→cN s kn aU K S na A m F=140:=fun h=>by
  unfold cN;rw [if_neg Dd,if_neg (by omega),if_neg (by omega),if_neg Pw,if_neg (by omega),if_neg (by omega),if_neg h]
 have Ad:iB s K S na A m F→cN s kn aU K S na A m F=0:=fun h=>by
  unfold cN;rw [if_neg Dd,if_neg (by omega),if_neg (by omega),if_neg Pw,if_neg (by omega),if_neg (by omega),if_pos h]
 have jN:=wZ hF;have K8:=LK hF hA;have tD: ∀j,cz F j<256:=fun j=>hF _
 have bt:au [aj false v3 m F] (aB (aD 1 v3.v (hlen F) m none) (m - hlen F) (cz F)):=au.part (lo:=hlen F) (hi:=m) (mx:=none) (au.view (v:=v3) (n:=m) (T:=F)) LJ (Nat.le_refl _) (by simp);have bh:au [aj false v3 m F] (aB (aD 1 v3.v 0 (hlen F) none) (hlen F) F):=by
  have:=au.part (lo:=0) (hi:=hlen F) (mx:=none) (au.view (v:=v3) (n:=m) (T:=F)) (by omega) LJ (by simp);rw [Nat.sub_zero]at this;simp only [Nat.zero_add]at this;exact this
 intro b1;subst qZ;refine⟨_,rI (B:=[aj false v3 m F,aj false v2 na A]) b1 (aK ..) v2.one (hlen F) na F A (by omega) (au.left (C:=[aj false v2 na A]) bh) (au.get 1 rfl),?_⟩;rintro x hs ⟨v5,rfl,rfl⟩;refine⟨v5,(hlen F+na:Nat),fun j=>(oH F A j:Nat),rfl,rfl,?_⟩;refine⟨_,Cm (B:=[aj false v0 (gj s) K,aj false v1 12 S,aj true v5 (hlen F+na) (oH F A),aj false v3 m F]) (x3:=aD 1 v3.v (hlen F) m none) v0.one v1.one v5.one (aK ..) s (bf F) fA K S (oH F A) (cz F) hK hS K8 tD jN (hlen F+na) (m - hlen F) (by omega) (au.get 0 rfl) (au.get 1 rfl) (au.get 2 rfl) (au.right (A:=[aj false v0 (gj s) K,aj false v1 12 S,aj true v5 (hlen F+na) (oH F A)]) bt),?_⟩;rintro x hs ⟨nw,⟨v6,L,q,rfl,rfl,hq⟩,rfl⟩;refine⟨v6,(L:Nat),fun j=>(eg s K (aJ S (bf F)) (cz F) j:Nat),q,rfl,rfl,?_⟩;rcases hq with⟨ho,rfl,rfl⟩ | ⟨ho,rfl,rfl⟩
 ·exact⟨fun h=>absurd rfl h,fun _=> .inr ⟨Ad ho,v6,rfl,rfl⟩⟩
 ·have:=De ho;exact⟨fun _=> .inl ⟨by rw [this];decide,by rw [this];rfl⟩,fun h=>absurd (ae6.1 h) (by decide)⟩
theorem Cq{B:List HP}{x0 x1 x2 x3:Value}(h0:x0.oneCell'=true)(h1:x1.oneCell'=true)(h2:x2.oneCell'=true)(h3:x3.oneCell'=true)(s aU kn na m:Nat)(K S A F:Nat→Nat)(hK: ∀j,K j<256)(hS: ∀j,S j<256)(hA: ∀j,A j<256)(hF: ∀j,F j<256)(hm:m≤9223372036854775807)
  (g0:au B (aB x0 kn K)) (g1:au B (aB x1 12 S)) (g2:au B (aB x2 na A)) (g3:au B (aB x3 m F)):
  aw ae0 11 [.int .u16 (s:Int),.int .u64 (aU:Int),x0,x1,x2,x3] B fun r hs=> ∃nw,Fm.Ac s kn aU na m K S A F r nw∧hs=B++nw:=by
 refine aw.fp (A:=[]) (L:=[aB x0 kn K,aB x1 12 S,aB x2 na A,aB x3 m F]) (Q:=Fm.Ac s kn aU na m K S A F) ?_ (by simp) ?_ (Np g0 g1 g2 g3)
 ·refine aw.post (Cp s aU kn na m ⟨x0,h0⟩ ⟨x1,h1⟩ ⟨x2,h2⟩ ⟨x3,h3⟩ K S A F hK hS hA hF hm) ?_;rintro r hs h;exact⟨_,bX.refl _,_,h,rfl⟩
 ·rintro v nw ⟨o,_,rfl⟩ h hh;simp only [afd,ae9,or_false]at hh;subst hh;rfl
end Go.RX.Fl
