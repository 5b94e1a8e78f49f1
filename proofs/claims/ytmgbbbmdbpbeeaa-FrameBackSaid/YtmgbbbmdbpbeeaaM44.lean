/- Frames plainly. -/
import Derived.Test.YtmgbbbmdbpbeeaaM43
open Classical renaming not_not → adJ
open Go.Proofs.Try renaming prog → adE
open Int renaming toNat → ag
open List renaming append → ads, append_eq → adG
namespace Go.Se
open Go.Hd Go.Gh Go.Gc Go.Ae Go.RX Go.RX.Sh Go.RX.Fk Go.RX.Fi
def ug(s:Nat)(N:Nat→Nat)(na:Nat)(A:Nat→Nat)(nt:Nat)(Y:Nat→Nat):Nat→Nat:=
 ey 8 (ew na) (ey 8 (ew nt) (ey 8 (ew (bw s)) (ey 12 N (ey na A Y))))
theorem Qd{s:Nat}{N A Y:Nat→Nat}(hN: ∀j,N j<256)(hA: ∀j,A j<256)(hY: ∀j,Y j<256)(na nt:Nat): ∀j,ug s N na A nt Y j<256:=
 jb (wH _) (jb (wH _) (jb (wH _) (jb hN (jb hA hY _) _) _) _) _
def gb(s:Nat)(K N:Nat→Nat)(na:Nat)(A:Nat→Nat)(nt:Nat)(Y:Nat→Nat):Nat→Nat:=
 Cq 32 (fun j=>K (16+j)) (8+8+8+12+na+nt) (ug s N na A nt Y)
theorem yI(s:Nat)(K N:Nat→Nat)(na:Nat)(A:Nat→Nat)(nt:Nat)(Y:Nat→Nat)(j:Nat):gb s K N na A nt Y j<256:=P9 _ _ _ _ j
theorem Hb{s:Nat}{N A A':Nat→Nat}{na nt:Nat}{Y Y':Nat→Nat}(hA: ∀j,j<na→A j=A' j)(hY: ∀j,j<nt→Y j=Y' j):
  ∀j,j<8+8+8+12+na+nt→ug s N na A nt Y j=ug s N na A' nt Y' j:=by
 intro j hj;unfold ug ey;split
 ·rfl
 split
 ·rfl
 split
 ·rfl
 split
 ·rfl
 split
 ·rename_i c;exact hA _ c
 ·exact hY _ (by omega)
theorem E3{s:Nat}{K N A A':Nat→Nat}{na nt:Nat}{Y Y':Nat→Nat}(hA: ∀j,j<na→A j=A' j)(hY: ∀j,j<nt→Y j=Y' j):gb s K N na A nt Y=gb s K N na A' nt Y':=
 GX (Hb hA hY)
def kR(s:Nat):Nat:=if s=5 then 8 else 4
def iC(s:Nat)(K N T:Nat→Nat):Nat→Nat:=if 4≤s then df (kR s) K N T else eu 4 K (dT N 0) T
theorem E4{s:Nat}{K N T:Nat→Nat}(hK: ∀j,K j<256)(hN: ∀j,N j<256)(hT: ∀j,T j<256)(j:Nat):iC s K N T j<256:=by
 unfold iC;split
 ·exact sK hK hN hT j
 ·exact Ae.sG 4 K _ _ hK (iX hN (by decide)) hT j
def oG(s:Nat)(K N:Nat→Nat)(na:Nat)(A:Nat→Nat)(nt:Nat)(T:Nat→Nat):Nat→Nat:=
 if 4≤s then iY (kR s) K N na A nt T else ey nt (iC s K N T) (gb s K N na A nt (iC s K N T))
theorem Qe{s:Nat}{K N T:Nat→Nat}(hK: ∀j,K j<256)(hN: ∀j,N j<256)(hT: ∀j,T j<256)(na:Nat)(A:Nat→Nat)(nt j:Nat):oG s K N na A nt T j<256:=by
 unfold oG;split
 ·exact MT hK hN hT _ _ _ _
 ·exact jb (E4 hK hN hT) (yI _ _ _ _ _ _ _) _ _
def Kl(s:Nat)(K N:Nat→Nat)(na:Nat)(A:Nat→Nat)(m:Nat)(T:Nat→Nat):Prop:=
 bw s≤m∧(if 4≤s then∀j,j<16→jl (kR s) K N na A (m - 16) T j=T (m - 16+j)else∀j,j<bw s→gb s K N na A (m - bw s) T j=T (m - bw s+j))
theorem E5{s:Nat}(_:isS s)(h4:4≤s)(K N:Nat→Nat)(na:Nat)(A:Nat→Nat)(m:Nat)(T:Nat→Nat):Kl s K N na A m T↔opens (kR s) K N na A m T:=by
 have ht:bw s=16:=by
  unfold bw;rw [if_neg (by omega),if_neg (by omega),if_neg (by omega)]
 unfold Kl opens;rw [if_pos h4,ht]
open Classical in
noncomputable def fN(s kn na nt:Nat):Nat:=if¬isS s then 130 else if kn≠db s then 2 else if 1024<na then 3 else if 65536<nt then 3 else 0
noncomputable def pL(s kn aM aP na nt:Nat):Nat:=if fN s kn na nt=0 then aY aM aP+(nt+bw s)else 0
def vA(aM aP:Nat)(A:Nat→Nat):Nat→Nat:=ey (aY aM aP) (eI aM aP) A
theorem SZ{A:Nat→Nat}(aM aP:Nat)(hA: ∀j,A j<256)(j:Nat):vA aM aP A j<256:=jb (yF aM aP) hA _ j
def bR(s:Nat)(K S:Nat→Nat)(aM aP na:Nat)(A:Nat→Nat)(nt:Nat)(T:Nat→Nat):Nat→Nat:=
 ey (aY aM aP) (eI aM aP) (oG s K (aW S aP) (aY aM aP+na) (vA aM aP A) nt T)
theorem yJ{s:Nat}{K S T:Nat→Nat}(hK: ∀j,K j<256)(hS: ∀j,S j<256)(hT: ∀j,T j<256)(aM aP na:Nat)(A:Nat→Nat)(nt j:Nat):bR s K S aM aP na A nt T j<256:=
 jb (yF aM aP) (Qe hK (ud hS aP) hT _ _ _) _ j
def hlen(F:Nat→Nat):Nat:=1+nk F+nc F
theorem Qf{F:Nat→Nat}(hF: ∀j,F j<256):hlen F≤17:=by
 have:=Rg (hF 0);have:=M6 F;unfold hlen;omega
def cc(F:Nat→Nat):Nat→Nat:=fun j=>F (hlen F+j)
def oH(F A:Nat→Nat):Nat→Nat:=ey (hlen F) F A
theorem S3{F A:Nat→Nat}(hF: ∀j,F j<256)(hA: ∀j,A j<256)(j:Nat):oH F A j<256:=jb hF hA _ j
def gP(s:Nat)(K S:Nat→Nat)(na:Nat)(A:Nat→Nat)(m:Nat)(F:Nat→Nat):Prop:=
 Kl s K (aW S (bM F)) (hlen F+na) (oH F A) (m - hlen F) (cc F)
open Classical in
noncomputable def dK(s kn aM:Nat)(K S:Nat→Nat)(na:Nat)(A:Nat→Nat)(m:Nat)(F:Nat→Nat):Nat:=
 if¬isS s then 130 else if kn≠db s then 2 else if 1024<na then 3 else if¬yG m F then 9 else if fZ F≠aM then 4 else if 65536+bw s<m - hlen F then 3 else
 if gP s K S na A m F then 0 else 140
noncomputable def yK(s kn aM:Nat)(K S:Nat→Nat)(na:Nat)(A:Nat→Nat)(m:Nat)(F:Nat→Nat):Nat:=if dK s kn aM K S na A m F=0 then m - hlen F - bw s else 0
def ot(s:Nat)(K S F:Nat→Nat):Nat→Nat:=iC s K (aW S (bM F)) (cc F)
noncomputable def AS(s kn aM:Nat)(K S:Nat→Nat)(na:Nat)(A:Nat→Nat)(m:Nat)(F:Nat→Nat):Nat:=if dK s kn aM K S na A m F=0 then bM F else 0
theorem Qg{s kn na nt:Nat}(h:fN s kn na nt=0):isS s∧kn=db s∧na≤1024∧nt≤65536:=by
 unfold fN at h;split at h
 ·exact absurd h (by decide)
 rename_i c1;split at h
 ·exact absurd h (by decide)
 rename_i c2;split at h
 ·exact absurd h (by decide)
 split at h
 ·exact absurd h (by decide)
 exact⟨adJ.1 c1,by omega,by omega,by omega⟩
end Go.Se

namespace Go.RX.Fm
open Go Go.RX Go.Proofs Go.RX.Sh Go.RX.Fg Go.RX.Fi Go.RX.Fj Go.RX.Fk Go.Hd Go.Gh Go.Gc Go.Ae Go.RX.Fe Go.Se
theorem Yl(n m:Nat)(A B:Nat→Nat):aA (fun j=>((A j:Nat):Int)) n m (fun j=>((B j:Nat):Int))=fun j=>if j<n then((A j:Nat):Int)else if j<n+m then((B (j - n):Nat):Int)else((A j:Nat):Int):=by
 funext j;unfold aA;by_cases c:j<n
 ·rw [if_neg (by omega),if_pos c]
 ·rw [if_neg c];by_cases c2:j<n+m
  ·rw [if_pos (by omega),if_pos c2]
  ·rw [if_neg (by omega),if_neg c2]
theorem rB(N:Nat→Nat):(Value.agg (ads (aj .u8 16 (aA (fun _=>0) 0 12 fun j=>((N j:Nat):Int))) []).toArray)=bW (dT N 0):=by
 unfold bW;rw [adG,List.append_nil];refine congrArg (fun l:List Value=>Value.agg l.toArray) (bA .u8 16 fun j hj=>?_);unfold aA dT;by_cases c:j<12
 ·rw [if_pos (by omega),if_pos c];rfl
 ·rw [if_neg (by omega),if_neg c];split<;>rfl
theorem AU{s kn na nt:Nat}(h: ¬isS s):fN s kn na nt=130:=by unfold fN;rw [if_pos h]
theorem Qh{s kn na nt:Nat}(h:isS s)(h2:kn≠db s):fN s kn na nt=2:=by unfold fN;rw [if_neg (adJ.2 h),if_pos h2]
theorem Qi{s kn na nt:Nat}(h:isS s)(h2:kn=db s)(h3:1024<na):fN s kn na nt=3:=by unfold fN;rw [if_neg (adJ.2 h),if_neg (adJ.2 h2),if_pos h3]
theorem Qj{s kn na nt:Nat}(h:isS s)(h2:kn=db s)(h3: ¬1024<na)(h4:65536<nt):fN s kn na nt=3:=by unfold fN;rw [if_neg (adJ.2 h),if_neg (adJ.2 h2),if_neg h3,if_pos h4]
theorem sP{s kn na nt:Nat}(h:isS s)(h2:kn=db s)(h3: ¬1024<na)(h4: ¬65536<nt):fN s kn na nt=0:=by unfold fN;rw [if_neg (adJ.2 h),if_neg (adJ.2 h2),if_neg h3,if_neg h4]
def Nb(s kn aM aP na nt:Nat)(K S A T:Nat→Nat)(r:Value)(hs:List HP):Prop:=
 ∃o:V1,r= .tuple #[o.v,.int .i64 (fN s kn na nt:Nat)]∧hs=[al true o (pL s kn aM aP na nt) (bR s K S aM aP na A nt T)]
theorem Km(b:Nat)(N:Nat→Nat):aq b true (ads (aj .u8 12 fun j=>((N j:Nat):Int)) [])=aq b true (aj .u8 12 fun j=>((N j:Nat):Int)):=by rw [adG,List.append_nil]
theorem S4(s:Nat)(N:Nat→Nat)(na:Nat)(A:Nat→Nat)(nt:Nat)(Y:Nat→Nat):
  (∀j,j<8→ew na j=ug s N na A nt Y (0+j))∧(∀j,j<8→ew nt j=ug s N na A nt Y (8+j))∧(∀j,j<8→ew (bw s) j=ug s N na A nt Y (8+8+j))∧(∀j,j<12→N j=ug s N na A nt Y (8+8+8+j))∧
  (∀j,j<na→A j=ug s N na A nt Y (8+8+8+12+j))∧(∀j,j<nt→Y j=ug s N na A nt Y (8+8+8+12+na+j)):=by
 unfold ug;refine⟨fun j hj=>?_,fun j hj=>?_,fun j hj=>?_,fun j hj=>?_,fun j hj=>?_,fun j hj=>?_⟩
 ·rw [Nat.zero_add,fB hj]
 ·rw [bD,fB hj]
 ·rw [show 8+8+j=8+(8+j) by omega,bD,bD,fB hj]
 ·rw [show 8+8+8+j=8+(8+(8+j)) by omega,bD,bD,bD,fB hj]
 ·rw [show 8+8+8+12+j=8+(8+(8+(12+j))) by omega,bD,bD,bD,bD,fB hj]
 ·rw [show 8+8+8+12+na+j=8+(8+(8+(12+(na+j)))) by omega,bD,bD,bD,bD,bD]
theorem rC(b Dg:Nat)(v0:V1)(K:Nat→Nat)(hK: ∀j,K j<256)(md:Bool)(v7 v8 v9 va:V1)(xy:Value)(UD:xy.oneCell'=true)(vy:V1)(ny:Nat)(Yy:Nat→Nat)(s:Nat)(N:Nat→Nat)(na:Nat)(A:Nat→Nat)(nt:Nat)(Y:Nat→Nat)(hN: ∀j,N j<256)(hA: ∀j,A j<256)(hY: ∀j,Y j<256)(hl:na+nt+1000≤140737488355328)
  (gy:ay [al md vy ny Yy] (aL xy nt Y)):
  ar adE 31 [.int .u8 1,aC 1 v0.v 16 48 none,.slice (some ⟨b,0,none⟩) 6 6] [al false v0 48 K,aq b true [v7.v,v8.v,v9.v,.slice (some ⟨Dg,0,none⟩) 12 12,va.v,xy],al true v7 8 (ew na),al true v8 8 (ew nt),al true v9 8 (ew (bw s)),aq Dg true (ads (aj .u8 12 fun j=>((N j:Nat):Int)) []),al true va na A,al md vy ny Yy]
   fun r hs=> ∃o:V1,r=o.v∧hs=[al false v0 48 K,aq b true [v7.v,v8.v,v9.v,.slice (some ⟨Dg,0,none⟩) 12 12,va.v,xy],al true v7 8 (ew na),al true v8 8 (ew nt),al true v9 8 (ew (bw s)),aq Dg true (ads (aj .u8 12 fun j=>((N j:Nat):Int)) []),al true va na A,al md vy ny Yy,al true o 32 (gb s K N na A nt Y)]:=by
 have hm:=S4 s N na A nt Y;have bk:ay [al false v0 48 K] (aL (aC 1 v0.v 16 48 none) 32 fun j=>K (16+j)):=
  ay.part (lo:=16) (hi:=48) (mx:=none) (ay.view (v:=v0) (n:=48) (T:=K)) (by decide) (by decide) (by simp)
 have bn:ay [aq Dg true (ads (aj .u8 12 fun j=>((N j:Nat):Int)) [])] (aL (.slice (some ⟨Dg,0,none⟩) 12 12) 12 N):=by
  rw [Km];exact ay.block (fun _ _=>rfl) (Nat.le_refl _)
 have h:=G0 (B:=[al false v0 48 K,al true v7 8 (ew na),al true v8 8 (ew nt),al true v9 8 (ew (bw s)),aq Dg true (ads (aj .u8 12 fun j=>((N j:Nat):Int)) []),al true va na A,al md vy ny Yy]) b (x0:=v7.v) (x1:=v8.v) (x2:=v9.v) (x3:= .slice (some ⟨Dg,0,none⟩) 12 12) (x4:=va.v) (x5:=xy) (xk:=aC 1 v0.v 16 48 none) v7.one v8.one v9.one rfl va.one UD (aI ..) 8 8 8 12 na nt (ew na) (ew nt) (ew (bw s)) N A Y (ug s N na A nt Y) (fun j=>K (16+j)) (Qd hN hA hY na nt) (fun j=>hK _) hm.1 hm.2.1 hm.2.2.1 hm.2.2.2.1 hm.2.2.2.2.1 hm.2.2.2.2.2 (by omega)
  (ay.get 1 rfl) (ay.get 2 rfl) (ay.get 3 rfl) (ay.mid (A:=[al false v0 48 K,al true v7 8 (ew na),al true v8 8 (ew nt),al true v9 8 (ew (bw s))]) (C:=[al true va na A,al md vy ny Yy]) bn) (ay.get 5 rfl)
  (ay.right (A:=[al false v0 48 K,al true v7 8 (ew na),al true v8 8 (ew nt),al true v9 8 (ew (bw s)),aq Dg true (ads (aj .u8 12 fun j=>((N j:Nat):Int)) []),al true va na A]) gy)
  (ay.left (C:=[al true v7 8 (ew na),al true v8 8 (ew nt),al true v9 8 (ew (bw s)),aq Dg true (ads (aj .u8 12 fun j=>((N j:Nat):Int)) []),al true va na A,al md vy ny Yy]) bk)
 refine ar.post (ar.pre h (bU.perm (List.Perm.swap _ _ _))) ?_;rintro r hs ⟨o,hr,rfl⟩;exact⟨_,bU.perm (List.Perm.swap _ _ _),o,hr,rfl⟩
set_option maxHeartbeats 4000000 in
theorem E6(s aM aP kn na nt:Nat)(v0 v1 v2:V1)(K S A T:Nat→Nat)(hK: ∀j,K j<256)(hS: ∀j,S j<256)(hA: ∀j,A j<256)(hT: ∀j,T j<256)(j_:aM<18446744073709551616)(jO:aP<18446744073709551616):
  ar adE 7 [.agg (.int .u16 (s:Int):: .int .u64 (aM:Int)::v0.v::(ads (aj .u8 12 fun j=>((S j:Nat):Int)) [])).toArray,.int .u64 (aP:Int),v1.v,v2.v] [al false v0 kn K,al false v1 na A,al false v2 nt T] (Nb s kn aM aP na nt K S A T):=by
 refine ar.post (p:=fun r hs=>(fN s kn na nt≠0∧r= .tuple #[.slice none 0 0,.int .i64 (fN s kn na nt:Nat)])∨(fN s kn na nt=0∧∃o:V1,r= .tuple #[o.v,.int .i64 0]∧hs[8]? =some (al true o (aY aM aP+(nt+bw s)) (bR s K S aM aP na A nt T)))) ?_ ?_;rotate_left
 ·rintro r hs (⟨h,rfl⟩ | ⟨h,o,rfl,h8⟩)
  ·refine⟨_,bU.trans (bU.sub (List.nil_sublist _)) (bU.oa (t:=5)),⟨.slice none 0 0,rfl⟩,rfl,?_⟩;unfold pL;rw [if_neg h];rfl
  ·refine⟨_,bU.MS 8 h8,o,by rw [h];rfl,?_⟩;unfold pL;rw [if_pos h]
 refine Ld _ (s:Int) (aM:Int) (aP:Int) (kn:Int) (na:Int) (nt:Int) (fun j=>(K j:Nat)) (fun j=>(S j:Nat)) (fun j=>(A j:Nat)) (fun j=>(T j:Nat)) v0 v1 v2 ?_;unfold Dk;intro b0 b1 b2;refine⟨_,vu s,?_⟩;rintro x hs ⟨⟨gj,rfl⟩ | ⟨gj,rfl⟩,rfl⟩;rotate_left
 ·refine⟨0,0,0,0,0,130,rfl,rfl,?_⟩;intro b3;refine⟨fun _ b4=> .inl ⟨?_,?_⟩,fun h=>absurd h (by decide)⟩
  ·rw [AU gj];decide
  ·rw [AU gj];rfl
 refine⟨(qM s:Nat),(db s:Nat),(yH s:Nat),(bw s:Nat),(pK s:Nat),0,rfl,rfl,?_⟩;intro b3;refine⟨fun h=>absurd rfl h,fun _=>⟨by omega,fun _=>⟨fun hk b4=> .inl ?_,fun hk=>⟨by omega,fun _=>⟨fun h3 b4=> .inl ?_,fun h3 b4=>⟨by omega,fun _=>⟨fun h4=> .inl ?_,fun h4=>?_⟩⟩⟩⟩⟩⟩⟩
 ·have:=Qh (na:=na) (nt:=nt) gj (show kn≠db s by omega);exact⟨by rw [this];decide,by rw [this];rfl⟩
 ·have:=Qi (na:=na) (nt:=nt) gj (show kn=db s by omega) (by omega);exact⟨by rw [this];decide,by rw [this];rfl⟩
 ·have:=Qj (na:=na) (nt:=nt) gj (show kn=db s by omega) (by omega) (by omega);exact⟨by rw [this];decide,by rw [this];rfl⟩
 have AV:kn=db s:=by omega
 have nr:=sP (na:=na) (nt:=nt) gj AV (by omega) (by omega);have hhl:=M5 aM aP;have hH:=yF aM aP;have hN:=ud hS aP;have Ri:=SZ aM aP hA;refine⟨_,qh aM aP j_ jO,?_⟩;rintro x hs ⟨v3,rfl,rfl⟩;refine⟨v3,(aY aM aP:Nat),fun j=>(eI aM aP j:Nat),rfl,rfl,?_⟩;intro b5 b6 b7;have oF:=fun(v0:V1)=>vr s aM aP v0 S hS jO
 refine⟨fun hg b8=>?_,fun hg=>?_⟩
 ·
  have qN:4≤s:=by
   rcases gj with h | h | h | h | h<;>subst h<;>first | (exact absurd hg (by decide)) | decide
  have yx:kn=4*kR s:=by
   rw [AV];rcases gj with h | h | h | h | h<;>subst h<;>first | (exact absurd qN (by decide)) | rfl
  have Nc:bw s=16:=by
   rcases gj with h | h | h | h | h<;>subst h<;>first | (exact absurd qN (by decide)) | rfl
  refine⟨_,fC (B:=[al true v3 (aY aM aP) (eI aM aP),al false v1 na A]) b8 v3.one v1.one (aY aM aP) na (eI aM aP) A (by omega) (ay.get 0 rfl) (ay.get 1 rfl),?_⟩;rintro x hs ⟨v4,rfl,rfl⟩;refine⟨v4,(aY aM aP+na:Nat),fun j=>(vA aM aP A j:Nat),rfl,rfl,?_⟩;refine⟨_,oF v0,?_⟩;rintro x hs ⟨rfl,rfl⟩;refine⟨fun j=>(aW S aP j:Nat),rfl,rfl,?_⟩;refine⟨fun r hs=> ∃o:V1,r= .tuple #[o.v,.int .i64 0]∧hs=[al false v0 kn K,al true v4 (aY aM aP+na) (vA aM aP A),al false v2 nt T]++[al true o (nt+16) (iY (kR s) K (aW S aP) (aY aM aP+na) (vA aM aP A) nt T)],?_,?_⟩
  ·by_cases c5:s=5
   ·have e8:kR s=8:=by unfold kR;rw [if_pos c5]
    rw [e8]at yx ⊢;subst yx;exact zK v0.one v4.one v2.one K (aW S aP) (vA aM aP A) T hK hN Ri hT (aY aM aP+na) nt (by omega) (ay.get 0 rfl) (ay.get 1 rfl) (ay.get 2 rfl)
   ·have e8:kR s=4:=by unfold kR;rw [if_neg c5]
    rw [e8]at yx ⊢;subst yx;exact zG v0.one v4.one v2.one K (aW S aP) (vA aM aP A) T hK hN Ri hT (aY aM aP+na) nt (by omega) (ay.get 0 rfl) (ay.get 1 rfl) (ay.get 2 rfl)
  rintro x hs ⟨v5,rfl,rfl⟩;refine⟨v5,(nt+16:Nat),0,fun j=>(iY (kR s) K (aW S aP) (aY aM aP+na) (vA aM aP A) nt T j:Nat),rfl,rfl,?_⟩
  iterate 3 refine⟨by omega,fun _=>?_⟩
  refine⟨by omega,fun _ v6=> .inr ⟨nr,v6,rfl,?_⟩⟩;show some (au true 5 1 v6.v _ _)=_;congr 1;unfold al;rw [show ag (((aY aM aP:Nat):Int)+((nt+16:Nat):Int))=aY aM aP+(nt+bw s) by omega,Int.toNat_natCast,Int.toNat_natCast];congr 1;refine cm fun j hj=>?_
  unfold bR oG;rw [if_pos qN,Yl];dsimp only;unfold ey;by_cases c:j<aY aM aP
  ·rw [if_pos c,if_pos c]
  ·rw [if_neg c,if_neg c,if_pos (by omega)]
 ·
  have qN: ¬4≤s:=by
   rcases gj with h | h | h | h | h<;>subst h<;>first | (exact absurd rfl hg) | decide
  have Vw:yH s=16:=by
   rcases gj with h | h | h | h | h<;>subst h<;>first | (exact absurd (by decide) qN) | rfl
  have Vx:db s=48:=by
   rcases gj with h | h | h | h | h<;>subst h<;>first | (exact absurd (by decide) qN) | rfl
  have eh:qM s=1:=by
   rcases gj with h | h | h | h | h<;>subst h<;>first | (exact absurd (by decide) qN) | rfl
  have et:bw s≤10:=by
   rcases gj with h | h | h | h | h<;>subst h<;>first | (exact absurd (by decide) qN) | decide
  rw [Vw,eh];have Vy:kn=48:=by rw [AV,Vx]
  have ti:ag ((16:Nat):Int)=16:=rfl;refine⟨by omega,fun _=>⟨by omega,fun _=>?_⟩⟩;have Vz:ay [al false v0 kn K] (aL (aC 1 v0.v 0 16 none) 16 K):=by
   have:=ay.part (lo:=0) (hi:=16) (mx:=none) (ay.view (v:=v0) (n:=kn) (T:=K)) (by decide) (by omega) (by simp);simp only [Nat.zero_add]at this;exact this
  refine⟨_,lU (B:=[al false v0 kn K]) (aI ..) K hK Vz,?_⟩;rintro x hs ⟨b8,v4,rfl,rfl⟩;refine⟨b8,v4,(4*(4+7):Nat),fun j=>(sb j:Nat),cw 4 K,rfl,rfl,?_⟩;intro b9 Oi Wa QE;refine⟨_,fC (B:=[al true v3 (aY aM aP) (eI aM aP),al false v1 na A]) QE v3.one v1.one (aY aM aP) na (eI aM aP) A (by omega) (ay.get 0 rfl) (ay.get 1 rfl),?_⟩;rintro x hs ⟨v5,rfl,rfl⟩;refine⟨v5,(aY aM aP+na:Nat),fun j=>(vA aM aP A j:Nat),rfl,rfl,?_⟩;intro Oj;refine⟨_,oF v0,?_⟩;rintro x hs ⟨rfl,rfl⟩;refine⟨fun j=>(aW S aP j:Nat),rfl,rfl,?_⟩;intro KJ KK;rw [rB];have hC:=iX hN (c:=0) (by decide);refine⟨_,fY (B:=[al false v2 nt T]) v2.one b8 KK v4 4 (by decide) (by decide) K (dT (aW S aP) 0) T hK hC hT nt (by omega) ay.view,?_⟩;rintro x hs ⟨v6,rfl,rfl⟩;have eY:eu 4 K (dT (aW S aP) 0) T=iC s K (aW S aP) T:=by unfold iC;rw [if_neg qN]
  have hY:=E4 (s:=s) hK hN hT;rw [eY];refine⟨v6,(nt:Nat),fun j=>(iC s K (aW S aP) T j:Nat),rfl,rfl,?_⟩;refine⟨_,oF v0,?_⟩;rintro x hs ⟨rfl,rfl⟩;refine⟨fun j=>(aW S aP j:Nat),rfl,rfl,?_⟩;intro Dg;refine⟨by omega,fun _=>⟨by omega,fun _=>?_⟩⟩;refine⟨_,jc (aY aM aP+na),?_⟩;rintro x hs ⟨v7,rfl,rfl⟩;refine⟨v7,fun j=>(ew (aY aM aP+na) j:Nat),rfl,rfl,?_⟩;refine⟨_,jc nt,?_⟩;rintro x hs ⟨v8,rfl,rfl⟩;refine⟨v8,fun j=>(ew nt j:Nat),rfl,rfl,?_⟩;refine⟨_,jc (bw s),?_⟩;rintro x hs ⟨v9,rfl,rfl⟩;refine⟨v9,fun j=>(ew (bw s) j:Nat),rfl,rfl,?_⟩;intro QF;have t48:ag (kn:Int)=48:=by omega
  dsimp only [bo,bi,bn];rw [t48];refine⟨_,rC QF Dg v0 K hK true v7 v8 v9 v5 v6.v v6.one v6 nt (iC s K (aW S aP) T) s (aW S aP) (aY aM aP+na) (vA aM aP A) nt (iC s K (aW S aP) T) hN Ri hY (by omega) ay.bytes,?_⟩;rintro x hs ⟨v10,rfl,rfl⟩;refine⟨v10,(32:Nat),fun j=>(gb s K (aW S aP) (aY aM aP+na) (vA aM aP A) nt (iC s K (aW S aP) T) j:Nat),rfl,rfl,?_⟩;refine⟨by omega,fun _=>⟨by omega,fun _=>⟨by omega,fun _ v11=>⟨by omega,fun _=>⟨by omega,fun _=>⟨by omega,fun _=>⟨by omega,fun _ gI=> .inr ⟨nr,gI,rfl,?_⟩⟩⟩⟩⟩⟩⟩⟩;show some (au true 5 1 gI.v _ _)=_;congr 1;unfold al;rw [show ag (((aY aM aP:Nat):Int)+((nt:Int)+((bw s:Nat):Int)))=aY aM aP+(nt+bw s) by omega,show ag ((nt:Int)+((bw s:Nat):Int))=nt+bw s by omega,Int.toNat_natCast,Int.toNat_natCast,Int.toNat_natCast];congr 1;refine cm fun j hj=>?_
  unfold bR oG;rw [if_neg qN];unfold aA ey;by_cases c:j<aY aM aP
  ·rw [if_neg (by omega),if_pos c]
  ·rw [if_pos (by omega),if_neg c];by_cases c2:j - aY aM aP<nt
   ·rw [if_neg (by omega),if_pos c2]
   ·rw [if_pos (by omega),if_neg c2]
end Go.RX.Fm
