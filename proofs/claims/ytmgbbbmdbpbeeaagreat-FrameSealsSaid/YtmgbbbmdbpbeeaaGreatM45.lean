/- Sums and MACs. -/
import Derived.Test.YtmgbbbmdbpbeeaaGreatM44
open Classical renaming not_not → ae6
open Go.Proofs.Tryz renaming prog → ae0
open Int renaming toNat → ag, toNat_natCast → afe
open List renaming append → aeU, append_eq → afq, mem_cons → afd, not_mem_nil → ae9
open List.cons renaming injEq → ae8
namespace Go.RX.Fm
open Go Go.RX Go.Proofs Go.RX.Sh Go.RX.Fg Go.RX.Fj Go.RX.Fk
theorem bX.front{A a b:List HP}(h:bX a b):bX (A++a) (A++b):=by
 refine bX.trans (bX.perm List.perm_append_comm) (bX.trans ?_ (bX.perm List.perm_append_comm));intro w Fs o;rw [List.append_assoc]at o ⊢;exact h w (A++Fs) o
theorem bX.AQ{b n:Nat}{T:Nat→Nat}(hn:n≤140737488355328):bX [ax b true (al .u8 n fun j=>((T j:Nat):Int))] [aj true ⟨.slice (some ⟨b,0,none⟩) n n,rfl⟩ n T]:=by
 rintro w Fs ⟨S,hS⟩;have h0:=(hS.at_ 0 _ rfl).1;have cM:=sC (t:=5) h0 (by rw [aG];unfold maxLen;omega);rw [aG]at cM;refine bK.weaken (a:=[ax b true (al .u8 n fun j=>((T j:Nat):Int))]) hS 0 _ _ rfl (fun _=>rfl) (fun k=>k=b) (fun k hk=>?_) ⟨?_,fun k=>?_⟩
 ·exact(h0.1 k).2 hk
 ·simp only [if_true];rw [je];exact cM
 ·simp [Value.ownBlock,eq_comm]
theorem EZ(b1:Nat)(w0 w1:V1)(n0 n1:Nat)(T0 T1 M:Nat→Nat)(hM: ∀j,M j<256)(Cb: ∀j,j<n0→T0 j=M (0+j))(Cc: ∀j,j<n1→T1 j=M (n0+j))(hl:n0+n1+300≤140737488355328):aw ae0 115 [.slice (some ⟨b1,0,none⟩) 2 2] [ax b1 true [w0.v,w1.v],aj false w0 n0 T0,aj false w1 n1 T1] fun r hs=>r=(Value.agg (al .u8 32 fun j=>((eV (n0+n1) M j:Nat):Int)).toArray)∧hs=[ax b1 true [w0.v,w1.v],aj false w0 n0 T0,aj false w1 n1 T1]:=by
 refine aw.post (p:=fun r hs=>r=(Value.agg (al .u8 32 fun j=>((eV (n0+n1) M j:Nat):Int)).toArray)∧hs[4]? =some (ax b1 true [w0.v,w1.v])∧hs[5]? =some (aj false w0 n0 T0)∧hs[6]? =some (aj false w1 n1 T1)) ?_ ?_;rotate_left
 ·rintro r hs ⟨rfl,g0,g1,g2⟩;refine⟨_,bX.idx [4,5,6] (by decide) ?_,rfl,rfl⟩;intro m u hu
  match m,hu with
  | 0,hu=>cases hu;exact⟨4,rfl,g0⟩
  | 1,hu=>cases hu;exact⟨5,rfl,g1⟩
  | 2,hu=>cases hu;exact⟨6,rfl,g2⟩
  | m+3,hu=>simp at hu
 refine LB _ (n0:Int) (n1:Int) (fun j=>(T0 j:Nat)) (fun j=>(T1 j:Nat)) w0 w1 b1 ?_;unfold CY;intro b0;refine⟨_,s5,?_⟩;rintro x hs ⟨b,vh,vk,A,B,rfl,rfl,hA,hB⟩;refine⟨b,vh,vk,A,B,rfl,rfl,?_⟩;refine⟨_,Ca b b1 vh vk w0 w1 n0 n1 T0 T1 M hM Cb Cc A B hA hB hl,?_⟩;rintro x hs ⟨o,rfl,rfl⟩;refine⟨o,fun j=>(eV (n0+n1) M j:Nat),rfl,rfl,by rw [afq,List.append_nil],rfl,rfl,rfl⟩
theorem Cf(b1:Nat)(w0 w1:V1)(n0 n1:Nat)(T0 T1 M:Nat→Nat)(hM: ∀j,M j<256)(Cb: ∀j,j<n0→T0 j=M (0+j))(Cc: ∀j,j<n1→T1 j=M (n0+j))(hl:n0+n1+300≤140737488355328):aw ae0 96 [.int .u8 1,.slice (some ⟨b1,0,none⟩) 2 2] [ax b1 true [w0.v,w1.v],aj false w0 n0 T0,aj false w1 n1 T1] fun r hs=> ∃o:V1,r=o.v∧hs=[ax b1 true [w0.v,w1.v],aj false w0 n0 T0,aj false w1 n1 T1,aj true o 32 (eV (n0+n1) M)]:=by
 refine aw.post (p:=fun r hs=> ∃b0:Nat,r= .slice (some ⟨b0,0,none⟩) 32 32∧hs=[ax b1 true [w0.v,w1.v],aj false w0 n0 T0,aj false w1 n1 T1,ax b0 true (al .u8 32 fun j=>((eV (n0+n1) M j:Nat):Int))]) ?_ ?_;rotate_left
 ·rintro r hs ⟨b0,rfl,rfl⟩;exact⟨_,bX.front (A:=[ax b1 true [w0.v,w1.v],aj false w0 n0 T0,aj false w1 n1 T1]) (bX.AQ (by decide)),⟨_,rfl⟩,rfl,rfl⟩
 refine Jm _ (n0:Int) (n1:Int) (fun j=>(T0 j:Nat)) (fun j=>(T1 j:Nat)) w0 w1 b1 ?_;unfold z7;refine⟨_,EZ b1 w0 w1 n0 n1 T0 T1 M hM Cb Cc hl,?_⟩;rintro x hs ⟨rfl,rfl⟩;refine⟨fun j=>(eV (n0+n1) M j:Nat),by rw [afq,List.append_nil],rfl,?_⟩;intro b0;exact⟨b0,rfl,by rw [afq,List.append_nil];rfl⟩
theorem Cg{B:List HP}(b1:Nat){x0 x1:Value}(h0:x0.oneCell'=true)(h1:x1.oneCell'=true)(n0 n1:Nat)(T0 T1 M:Nat→Nat)(hM: ∀j,M j<256)(Cb: ∀j,j<n0→T0 j=M (0+j))(Cc: ∀j,j<n1→T1 j=M (n0+j))(hl:n0+n1+300≤140737488355328)(g0:au B (aB x0 n0 T0))(g1:au B (aB x1 n1 T1)):
  aw ae0 96 [.int .u8 1,.slice (some ⟨b1,0,none⟩) 2 2] ([ax b1 true [x0,x1]]++B) fun r hs=> ∃o:V1,r=o.v∧hs=[ax b1 true [x0,x1]]++B++[aj true o 32 (eV (n0+n1) M)]:=by
 have hm:aw ae0 96 [.int .u8 1,.slice (some ⟨b1,0,none⟩) 2 2] ([ax b1 true [x0,x1]]++[aB x0 n0 T0,aB x1 n1 T1]) fun r hs=> ∃nw,(∃o:V1,r=o.v∧nw=[aj true o 32 (eV (n0+n1) M)])∧hs=[ax b1 true [x0,x1]]++nw:=by
  refine aw.post (Cf b1 ⟨x0,h0⟩ ⟨x1,h1⟩ n0 n1 T0 T1 M hM Cb Cc hl) ?_;rintro r hs ⟨o,hr,rfl⟩;exact⟨_,bX.sub (by repeat (first | exact List.Sublist.slnil | apply List.Sublist.cons_cons | apply List.Sublist.cons)),_,⟨o,hr,rfl⟩,rfl⟩
 refine aw.post (aw.fp hm ?_ ?_ ?_) ?_
 ·intro h hh;simp only [afd,ae9,or_false]at hh;subst hh;rfl
 ·rintro v nw ⟨o,_,rfl⟩ h hh;simp only [afd,ae9,or_false]at hh;subst hh;rfl
 ·intro h hh;simp only [afd,ae9,or_false]at hh;rcases hh with rfl | rfl
  ·exact g0
  ·exact g1
 ·rintro r hs ⟨nw,⟨o,hr,rfl⟩,rfl⟩;exact⟨_,bX.refl _,o,hr,rfl⟩
theorem E0(vl:V1)(w0 w1 w2 w3 w4 w5 w6:V1)(n0 n1 n2 n3 n4 n5 n6:Nat)(T0 T1 T2 T3 T4 T5 T6 M:Nat→Nat)(hM: ∀j,M j<256)(Cb: ∀j,j<n0→T0 j=M (0+j))(Cc: ∀j,j<n1→T1 j=M (n0+j))(N0: ∀j,j<n2→T2 j=M (n0+n1+j))(N1: ∀j,j<n3→T3 j=M (n0+n1+n2+j))(N2: ∀j,j<n4→T4 j=M (n0+n1+n2+n3+j))(N3: ∀j,j<n5→T5 j=M (n0+n1+n2+n3+n4+j))(Uk: ∀j,j<n6→T6 j=M (n0+n1+n2+n3+n4+n5+j))(hl:n0+n1+n2+n3+n4+n5+n6+300≤140737488355328):aw ae0 115 [vl.v] [aE true 24 1 vl.v 7 [w0.v,w1.v,w2.v,w3.v,w4.v,w5.v,w6.v],aj false w0 n0 T0,aj false w1 n1 T1,aj false w2 n2 T2,aj false w3 n3 T3,aj false w4 n4 T4,aj false w5 n5 T5,aj false w6 n6 T6] fun r hs=>r=(Value.agg (al .u8 32 fun j=>((eV (n0+n1+n2+n3+n4+n5+n6) M j:Nat):Int)).toArray)∧hs=[aE true 24 1 vl.v 7 [w0.v,w1.v,w2.v,w3.v,w4.v,w5.v,w6.v],aj false w0 n0 T0,aj false w1 n1 T1,aj false w2 n2 T2,aj false w3 n3 T3,aj false w4 n4 T4,aj false w5 n5 T5,aj false w6 n6 T6]:=by
 refine aw.post (p:=fun r hs=>r=(Value.agg (al .u8 32 fun j=>((eV (n0+n1+n2+n3+n4+n5+n6) M j:Nat):Int)).toArray)∧hs[9]? =some (aE true 24 1 vl.v 7 [w0.v,w1.v,w2.v,w3.v,w4.v,w5.v,w6.v])∧hs[10]? =some (aj false w0 n0 T0)∧hs[11]? =some (aj false w1 n1 T1)∧hs[0]? =some (aj false w2 n2 T2)∧hs[1]? =some (aj false w3 n3 T3)∧hs[2]? =some (aj false w4 n4 T4)∧hs[3]? =some (aj false w5 n5 T5)∧hs[4]? =some (aj false w6 n6 T6)) ?_ ?_;rotate_left
 ·rintro r hs ⟨rfl,g0,g1,g2,g3,g4,g5,g6,g7⟩;refine⟨_,bX.idx [9,10,11,0,1,2,3,4] (by decide) ?_,rfl,rfl⟩;intro m u hu
  match m,hu with
  | 0,hu=>cases hu;exact⟨9,rfl,g0⟩
  | 1,hu=>cases hu;exact⟨10,rfl,g1⟩
  | 2,hu=>cases hu;exact⟨11,rfl,g2⟩
  | 3,hu=>cases hu;exact⟨0,rfl,g3⟩
  | 4,hu=>cases hu;exact⟨1,rfl,g4⟩
  | 5,hu=>cases hu;exact⟨2,rfl,g5⟩
  | 6,hu=>cases hu;exact⟨3,rfl,g6⟩
  | 7,hu=>cases hu;exact⟨4,rfl,g7⟩
  | m+8,hu=>simp at hu
 refine LD _ (n0:Int) (n1:Int) (n2:Int) (n3:Int) (n4:Int) (n5:Int) (n6:Int) (fun j=>(T0 j:Nat)) (fun j=>(T1 j:Nat)) (fun j=>(T2 j:Nat)) (fun j=>(T3 j:Nat)) (fun j=>(T4 j:Nat)) (fun j=>(T5 j:Nat)) (fun j=>(T6 j:Nat)) vl w0 w1 w2 w3 w4 w5 w6 ?_;unfold CZ;intro b0;refine⟨_,s5,?_⟩;rintro x hs ⟨b,vh,vk,A,B,rfl,rfl,hA,hB⟩;refine⟨b,vh,vk,A,B,rfl,rfl,?_⟩;refine⟨_,Cd b vl vh vk w0 w1 w2 w3 w4 w5 w6 n0 n1 n2 n3 n4 n5 n6 T0 T1 T2 T3 T4 T5 T6 M hM Cb Cc N0 N1 N2 N3 Uk A B hA hB hl,?_⟩;rintro x hs ⟨o,rfl,rfl⟩;refine⟨o,fun j=>(eV (n0+n1+n2+n3+n4+n5+n6) M j:Nat),rfl,rfl,by rw [afq,List.append_nil],rfl,rfl,rfl,rfl,rfl,rfl,rfl,rfl⟩
theorem Ch(vl:V1)(w0 w1 w2 w3 w4 w5 w6:V1)(n0 n1 n2 n3 n4 n5 n6:Nat)(T0 T1 T2 T3 T4 T5 T6 M:Nat→Nat)(hM: ∀j,M j<256)(Cb: ∀j,j<n0→T0 j=M (0+j))(Cc: ∀j,j<n1→T1 j=M (n0+j))(N0: ∀j,j<n2→T2 j=M (n0+n1+j))(N1: ∀j,j<n3→T3 j=M (n0+n1+n2+j))(N2: ∀j,j<n4→T4 j=M (n0+n1+n2+n3+j))(N3: ∀j,j<n5→T5 j=M (n0+n1+n2+n3+n4+j))(Uk: ∀j,j<n6→T6 j=M (n0+n1+n2+n3+n4+n5+j))(hl:n0+n1+n2+n3+n4+n5+n6+300≤140737488355328):aw ae0 96 [.int .u8 1,vl.v] [aE true 24 1 vl.v 7 [w0.v,w1.v,w2.v,w3.v,w4.v,w5.v,w6.v],aj false w0 n0 T0,aj false w1 n1 T1,aj false w2 n2 T2,aj false w3 n3 T3,aj false w4 n4 T4,aj false w5 n5 T5,aj false w6 n6 T6] fun r hs=> ∃o:V1,r=o.v∧hs=[aE true 24 1 vl.v 7 [w0.v,w1.v,w2.v,w3.v,w4.v,w5.v,w6.v],aj false w0 n0 T0,aj false w1 n1 T1,aj false w2 n2 T2,aj false w3 n3 T3,aj false w4 n4 T4,aj false w5 n5 T5,aj false w6 n6 T6,aj true o 32 (eV (n0+n1+n2+n3+n4+n5+n6) M)]:=by
 refine aw.post (p:=fun r hs=> ∃b0:Nat,r= .slice (some ⟨b0,0,none⟩) 32 32∧hs=[aE true 24 1 vl.v 7 [w0.v,w1.v,w2.v,w3.v,w4.v,w5.v,w6.v],aj false w0 n0 T0,aj false w1 n1 T1,aj false w2 n2 T2,aj false w3 n3 T3,aj false w4 n4 T4,aj false w5 n5 T5,aj false w6 n6 T6,ax b0 true (al .u8 32 fun j=>((eV (n0+n1+n2+n3+n4+n5+n6) M j:Nat):Int))]) ?_ ?_;rotate_left
 ·rintro r hs ⟨b0,rfl,rfl⟩;exact⟨_,bX.front (A:=[aE true 24 1 vl.v 7 [w0.v,w1.v,w2.v,w3.v,w4.v,w5.v,w6.v],aj false w0 n0 T0,aj false w1 n1 T1,aj false w2 n2 T2,aj false w3 n3 T3,aj false w4 n4 T4,aj false w5 n5 T5,aj false w6 n6 T6]) (bX.AQ (by decide)),⟨_,rfl⟩,rfl,rfl⟩
 refine Jn _ (n0:Int) (n1:Int) (n2:Int) (n3:Int) (n4:Int) (n5:Int) (n6:Int) (fun j=>(T0 j:Nat)) (fun j=>(T1 j:Nat)) (fun j=>(T2 j:Nat)) (fun j=>(T3 j:Nat)) (fun j=>(T4 j:Nat)) (fun j=>(T5 j:Nat)) (fun j=>(T6 j:Nat)) vl w0 w1 w2 w3 w4 w5 w6 ?_;unfold z9;refine⟨_,E0 vl w0 w1 w2 w3 w4 w5 w6 n0 n1 n2 n3 n4 n5 n6 T0 T1 T2 T3 T4 T5 T6 M hM Cb Cc N0 N1 N2 N3 Uk hl,?_⟩;rintro x hs ⟨rfl,rfl⟩;refine⟨fun j=>(eV (n0+n1+n2+n3+n4+n5+n6) M j:Nat),by rw [afq,List.append_nil],rfl,?_⟩;intro b0;exact⟨b0,rfl,by rw [afq,List.append_nil];rfl⟩
theorem Ci{B:List HP}(vl:V1){x0 x1 x2 x3 x4 x5 x6:Value}(h0:x0.oneCell'=true)(h1:x1.oneCell'=true)(h2:x2.oneCell'=true)(h3:x3.oneCell'=true)(h4:x4.oneCell'=true)(h5:x5.oneCell'=true)(h6:x6.oneCell'=true)(n0 n1 n2 n3 n4 n5 n6:Nat)(T0 T1 T2 T3 T4 T5 T6 M:Nat→Nat)(hM: ∀j,M j<256)(Cb: ∀j,j<n0→T0 j=M (0+j))(Cc: ∀j,j<n1→T1 j=M (n0+j))(N0: ∀j,j<n2→T2 j=M (n0+n1+j))(N1: ∀j,j<n3→T3 j=M (n0+n1+n2+j))(N2: ∀j,j<n4→T4 j=M (n0+n1+n2+n3+j))(N3: ∀j,j<n5→T5 j=M (n0+n1+n2+n3+n4+j))(Uk: ∀j,j<n6→T6 j=M (n0+n1+n2+n3+n4+n5+j))(hl:n0+n1+n2+n3+n4+n5+n6+300≤140737488355328)(g0:au B (aB x0 n0 T0))(g1:au B (aB x1 n1 T1))(g2:au B (aB x2 n2 T2))(g3:au B (aB x3 n3 T3))(g4:au B (aB x4 n4 T4))(g5:au B (aB x5 n5 T5))(g6:au B (aB x6 n6 T6)):
  aw ae0 96 [.int .u8 1,vl.v] ([aE true 24 1 vl.v 7 [x0,x1,x2,x3,x4,x5,x6]]++B) fun r hs=> ∃o:V1,r=o.v∧hs=[aE true 24 1 vl.v 7 [x0,x1,x2,x3,x4,x5,x6]]++B++[aj true o 32 (eV (n0+n1+n2+n3+n4+n5+n6) M)]:=by
 have hm:aw ae0 96 [.int .u8 1,vl.v] ([aE true 24 1 vl.v 7 [x0,x1,x2,x3,x4,x5,x6]]++[aB x0 n0 T0,aB x1 n1 T1,aB x2 n2 T2,aB x3 n3 T3,aB x4 n4 T4,aB x5 n5 T5,aB x6 n6 T6]) fun r hs=> ∃nw,(∃o:V1,r=o.v∧nw=[aj true o 32 (eV (n0+n1+n2+n3+n4+n5+n6) M)])∧hs=[aE true 24 1 vl.v 7 [x0,x1,x2,x3,x4,x5,x6]]++nw:=by
  refine aw.post (Ch vl ⟨x0,h0⟩ ⟨x1,h1⟩ ⟨x2,h2⟩ ⟨x3,h3⟩ ⟨x4,h4⟩ ⟨x5,h5⟩ ⟨x6,h6⟩ n0 n1 n2 n3 n4 n5 n6 T0 T1 T2 T3 T4 T5 T6 M hM Cb Cc N0 N1 N2 N3 Uk hl) ?_;rintro r hs ⟨o,hr,rfl⟩;exact⟨_,bX.sub (by repeat (first | exact List.Sublist.slnil | apply List.Sublist.cons_cons | apply List.Sublist.cons)),_,⟨o,hr,rfl⟩,rfl⟩
 refine aw.post (aw.fp hm ?_ ?_ ?_) ?_
 ·intro h hh;simp only [afd,ae9,or_false]at hh;subst hh;rfl
 ·rintro v nw ⟨o,_,rfl⟩ h hh;simp only [afd,ae9,or_false]at hh;subst hh;rfl
 ·intro h hh;simp only [afd,ae9,or_false]at hh;rcases hh with rfl | rfl | rfl | rfl | rfl | rfl | rfl
  ·exact g0
  ·exact g1
  ·exact g2
  ·exact g3
  ·exact g4
  ·exact g5
  ·exact g6
 ·rintro r hs ⟨nw,⟨o,hr,rfl⟩,rfl⟩;exact⟨_,bX.refl _,o,hr,rfl⟩
set_option maxHeartbeats 1000000 in
theorem G1(b1:Nat)(w0 w1 w2 w3 w4 w5 vk:V1)(n0 n1 n2 n3 n4 n5:Nat)(T0 T1 T2 T3 T4 T5 M K:Nat→Nat)(hM: ∀j,M j<256)(hK: ∀j,K j<256)(Cb: ∀j,j<n0→T0 j=M (0+j))(Cc: ∀j,j<n1→T1 j=M (n0+j))(N0: ∀j,j<n2→T2 j=M (n0+n1+j))(N1: ∀j,j<n3→T3 j=M (n0+n1+n2+j))(N2: ∀j,j<n4→T4 j=M (n0+n1+n2+n3+j))(N3: ∀j,j<n5→T5 j=M (n0+n1+n2+n3+n4+j))(hl:n0+n1+n2+n3+n4+n5+500≤140737488355328):
  aw ae0 64 [.int .u8 1,vk.v,.slice (some ⟨b1,0,none⟩) 6 6] [ax b1 true [w0.v,w1.v,w2.v,w3.v,w4.v,w5.v],aj false w0 n0 T0,aj false w1 n1 T1,aj false w2 n2 T2,aj false w3 n3 T3,aj false w4 n4 T4,aj false w5 n5 T5,aj false vk 32 K] fun r hs=> ∃o:V1,r=o.v∧hs=[ax b1 true [w0.v,w1.v,w2.v,w3.v,w4.v,w5.v],aj true o 32 (vZ 32 K (n0+n1+n2+n3+n4+n5) M)]:=by
 refine Pt _ (n0:Int) (n1:Int) (n2:Int) (n3:Int) (n4:Int) (n5:Int) (fun j=>(T0 j:Nat)) (fun j=>(T1 j:Nat)) (fun j=>(T2 j:Nat)) (fun j=>(T3 j:Nat)) (fun j=>(T4 j:Nat)) (fun j=>(T5 j:Nat)) (fun j=>(K j:Nat)) w0 w1 w2 w3 w4 w5 vk b1 ?_;unfold HC;have IC:=fun j=>sY hK (w:=54) (by decide) 32 j
 have Bb:=fun j=>sY hK (w:=92) (by decide) 32 j
 refine⟨_,nq (B:=[aj false vk 32 K]) vk.one K hK 54 (by decide) (au.get 0 rfl),?_⟩;rintro x hs ⟨v7,rfl,rfl⟩;refine⟨v7,64,fun j=>(fk 32 K 54 j:Nat),rfl,rfl,?_⟩;intro b2 v8;have e1:eV (64+n0+n1+n2+n3+n4+n5) (cl 64 (fk 32 K 54) M)=eV (64+(n0+n1+n2+n3+n4+n5)) (cl 64 (fk 32 K 54) M):=by rw [show 64+n0+n1+n2+n3+n4+n5=64+(n0+n1+n2+n3+n4+n5) by omega]
 refine⟨_,Ci (B:=[aj true v7 64 (fk 32 K 54),aj false w0 n0 T0,aj false w1 n1 T1,aj false w2 n2 T2,aj false w3 n3 T3,aj false w4 n4 T4,aj false w5 n5 T5]) v8 v7.one w0.one w1.one w2.one w3.one w4.one w5.one 64 n0 n1 n2 n3 n4 n5 (fk 32 K 54) T0 T1 T2 T3 T4 T5 (cl 64 (fk 32 K 54) M) (gS IC hM 64) (fun j hj=>by rw [Nat.zero_add,jD hj]) (fun j hj=>by rw [Cb j hj];rw [show 64+j=64+(0+j) by omega,bS]) (fun j hj=>by rw [Cc j hj];rw [show 64+n0+j=64+(n0+j) by omega,bS]) (fun j hj=>by rw [N0 j hj];rw [show 64+n0+n1+j=64+(n0+n1+j) by omega,bS]) (fun j hj=>by rw [N1 j hj];rw [show 64+n0+n1+n2+j=64+(n0+n1+n2+j) by omega,bS]) (fun j hj=>by rw [N2 j hj];rw [show 64+n0+n1+n2+n3+j=64+(n0+n1+n2+n3+j) by omega,bS]) (fun j hj=>by rw [N3 j hj];rw [show 64+n0+n1+n2+n3+n4+j=64+(n0+n1+n2+n3+n4+j) by omega,bS]) (by omega) (au.get 0 rfl) (au.get 1 rfl) (au.get 2 rfl) (au.get 3 rfl) (au.get 4 rfl) (au.get 5 rfl) (au.get 6 rfl),?_⟩;rintro x hs ⟨v9,rfl,rfl⟩;rw [e1];refine⟨v9,32,fun j=>(eV (64+(n0+n1+n2+n3+n4+n5)) (cl 64 (fk 32 K 54) M) j:Nat),rfl,rfl,?_⟩;refine⟨_,nq (B:=[aj false vk 32 K]) vk.one K hK 92 (by decide) (au.get 0 rfl),?_⟩;rintro x hs ⟨v10,rfl,rfl⟩;refine⟨v10,64,fun j=>(fk 32 K 92 j:Nat),rfl,rfl,?_⟩;intro b3;refine⟨_,Cg (B:=[aj true v10 64 (fk 32 K 92),aj true v9 32 (eV (64+(n0+n1+n2+n3+n4+n5)) (cl 64 (fk 32 K 54) M))]) b3 v10.one v9.one 64 32 (fk 32 K 92) (eV (64+(n0+n1+n2+n3+n4+n5)) (cl 64 (fk 32 K 54) M)) (cl 64 (fk 32 K 92) (eV (64+(n0+n1+n2+n3+n4+n5)) (cl 64 (fk 32 K 54) M))) (gS Bb (fun j=>BX _ _ j) 64) (fun j hj=>by rw [Nat.zero_add,jD hj]) (fun j hj=>by rw [bS]) (by omega) (au.get 0 rfl) (au.get 1 rfl),?_⟩;rintro x hs ⟨v11,rfl,rfl⟩;exact⟨v11,32,fun j=>(vZ 32 K (n0+n1+n2+n3+n4+n5) M j:Nat),rfl,rfl,v11,rfl,rfl⟩
theorem G2{B:List HP}(b1:Nat){x0 x1 x2 x3 x4 x5 xk:Value}(h0:x0.oneCell'=true)(h1:x1.oneCell'=true)(h2:x2.oneCell'=true)(h3:x3.oneCell'=true)(h4:x4.oneCell'=true)(h5:x5.oneCell'=true)(hk:xk.oneCell'=true)(n0 n1 n2 n3 n4 n5:Nat)(T0 T1 T2 T3 T4 T5 M K:Nat→Nat)(hM: ∀j,M j<256)(hK: ∀j,K j<256)(Cb: ∀j,j<n0→T0 j=M (0+j))(Cc: ∀j,j<n1→T1 j=M (n0+j))(N0: ∀j,j<n2→T2 j=M (n0+n1+j))(N1: ∀j,j<n3→T3 j=M (n0+n1+n2+j))(N2: ∀j,j<n4→T4 j=M (n0+n1+n2+n3+j))(N3: ∀j,j<n5→T5 j=M (n0+n1+n2+n3+n4+j))(hl:n0+n1+n2+n3+n4+n5+500≤140737488355328)(g0:au B (aB x0 n0 T0))(g1:au B (aB x1 n1 T1))(g2:au B (aB x2 n2 T2))(g3:au B (aB x3 n3 T3))(g4:au B (aB x4 n4 T4))(g5:au B (aB x5 n5 T5))(gk:au B (aB xk 32 K)):
  aw ae0 64 [.int .u8 1,xk,.slice (some ⟨b1,0,none⟩) 6 6] ([ax b1 true [x0,x1,x2,x3,x4,x5]]++B) fun r hs=> ∃o:V1,r=o.v∧hs=[ax b1 true [x0,x1,x2,x3,x4,x5]]++B++[aj true o 32 (vZ 32 K (n0+n1+n2+n3+n4+n5) M)]:=by
 have hm:aw ae0 64 [.int .u8 1,xk,.slice (some ⟨b1,0,none⟩) 6 6] ([ax b1 true [x0,x1,x2,x3,x4,x5]]++[aB x0 n0 T0,aB x1 n1 T1,aB x2 n2 T2,aB x3 n3 T3,aB x4 n4 T4,aB x5 n5 T5,aB xk 32 K]) fun r hs=> ∃nw,(∃o:V1,r=o.v∧nw=[aj true o 32 (vZ 32 K (n0+n1+n2+n3+n4+n5) M)])∧hs=[ax b1 true [x0,x1,x2,x3,x4,x5]]++nw:=by
  refine aw.post (G1 b1 ⟨x0,h0⟩ ⟨x1,h1⟩ ⟨x2,h2⟩ ⟨x3,h3⟩ ⟨x4,h4⟩ ⟨x5,h5⟩ ⟨xk,hk⟩ n0 n1 n2 n3 n4 n5 T0 T1 T2 T3 T4 T5 M K hM hK Cb Cc N0 N1 N2 N3 hl) ?_;rintro r hs ⟨o,hr,rfl⟩;exact⟨_,bX.refl _,_,⟨o,hr,rfl⟩,rfl⟩
 refine aw.post (aw.fp hm ?_ ?_ ?_) ?_
 ·intro h hh;simp only [afd,ae9,or_false]at hh;subst hh;rfl
 ·rintro v nw ⟨o,_,rfl⟩ h hh;simp only [afd,ae9,or_false]at hh;subst hh;rfl
 ·intro h hh;simp only [afd,ae9,or_false]at hh;rcases hh with rfl | rfl | rfl | rfl | rfl | rfl | rfl
  ·exact g0
  ·exact g1
  ·exact g2
  ·exact g3
  ·exact g4
  ·exact g5
  ·exact gk
 ·rintro r hs ⟨nw,⟨o,hr,rfl⟩,rfl⟩;exact⟨_,bX.refl _,o,hr,rfl⟩
open Go Go.RX Go.Proofs Go.RX.Sh Go.RX.Fg Go.RX.Fj Go.RX.Fk Go.Hd Go.Gh Go.RX.Fe
def G3(s:Nat)(r:Value):Prop:=
 (isS s∧r= .tuple #[.agg #[.int .u8 (uD s:Nat),.int .i64 (gj s:Nat),.int .i64 (Dc s:Nat),.int .i64 (aY s:Nat),.int .i64 (Pv s:Nat)],.int .i64 0])∨
 (¬isS s∧r= .tuple #[.agg #[.int .u8 0,.int .i64 0,.int .i64 0,.int .i64 0,.int .i64 0],.int .i64 130])
theorem E1{s n:Nat}(h:s≠n):ag ((cR ((List.range 1).map (fun _=>(s:Int))):Nat):Int)≠cR [(n:Int)]:=by
 intro e;have:=An (l:=[(s:Int)]) (m:=[(n:Int)]) rfl e;simp only [ae8,and_true]at this;omega
theorem E2(s:Nat):aw ae0 53 [.int .u16 (s:Int)] [] fun r hs=>G3 s r∧hs=[]:=by
 refine aw.post (p:=fun r _=>G3 s r) ?_ fun v hs h=>⟨[],bX.sub (List.nil_sublist _),h,rfl⟩
 refine FQ _ (s:Int) ?_;unfold wW;intro b0 b1 b2;have k1:cR [((1:Nat):Int)]=20:=by decide+kernel
 have k2:cR [((2:Nat):Int)]=72:=by decide+kernel
 have k3:cR [((3:Nat):Int)]=104:=by decide+kernel
 have k4:cR [((4:Nat):Int)]=272:=by decide+kernel
 have k5:cR [((5:Nat):Int)]=336:=by decide+kernel
 by_cases h1:s=1
 ·subst h1;have e:ag ((cR ((List.range 1).map (fun _=>((1:Nat):Int))):Nat):Int)=20:=k1;rw [e];exact⟨fun _=> .inl ⟨.inl rfl,rfl⟩,fun h=>absurd h (by decide)⟩
 by_cases h2:s=2
 ·subst h2;have e:ag ((cR ((List.range 1).map (fun _=>((2:Nat):Int))):Nat):Int)=72:=k2;rw [e];exact⟨fun _=> .inl ⟨.inr (.inl rfl),rfl⟩,fun h=>absurd h (by decide)⟩
 by_cases h3:s=3
 ·subst h3;have e:ag ((cR ((List.range 1).map (fun _=>((3:Nat):Int))):Nat):Int)=104:=k3;rw [e];exact⟨fun _=> .inl ⟨.inr (.inr (.inl rfl)),rfl⟩,fun h=>absurd h (by decide)⟩
 by_cases h4:s=4
 ·subst h4;have e:ag ((cR ((List.range 1).map (fun _=>((4:Nat):Int))):Nat):Int)=272:=k4;rw [e];exact⟨fun _=> .inl ⟨.inr (.inr (.inr (.inl rfl))),rfl⟩,fun h=>absurd h (by decide)⟩
 by_cases h5:s=5
 ·subst h5;have e:ag ((cR ((List.range 1).map (fun _=>((5:Nat):Int))):Nat):Int)=336:=k5;rw [e];exact⟨fun _=> .inl ⟨.inr (.inr (.inr (.inr rfl))),rfl⟩,fun h=>absurd h (by decide)⟩
 have n1:=E1 h1;have n2:=E1 h2;have n3:=E1 h3;have n4:=E1 h4;have n5:=E1 h5;rw [k1]at n1;rw [k2]at n2;rw [k3]at n3;rw [k4]at n4;rw [k5]at n5;have z:aq (aq (aq (aq (aq (fun _=>0) 20 1) 72 1) 104 1) 272 1) 336 1 (ag ((cR ((List.range 1).map (fun _=>(s:Int))):Nat):Int))=0:=by
  unfold aq;rw [if_neg n5,if_neg n4,if_neg n3,if_neg n2,if_neg n1]
 refine⟨fun h=>absurd z h,fun _=> .inr ⟨fun h=>?_,rfl⟩⟩;rcases h with h | h | h | h | h
 ·exact h1 h
 ·exact h2 h
 ·exact h3 h
 ·exact h4 h
 ·exact h5 h
theorem uC{B:List HP}(s:Nat):aw ae0 53 [.int .u16 (s:Int)] B fun r hs=>G3 s r∧hs=B:=
 j6 (E2 s) (by simp)
theorem zE(b:Nat)(v0 v1:V1)(n0 n1:Nat)(T0 T1:Nat→Nat)(hl:n0+n1≤140737488355328):
  aw ae0 29 [.slice (some ⟨b,0,none⟩) 2 2] [ax b true [v0.v,v1.v],aj false v0 n0 T0,aj false v1 n1 T1] fun r hs=> ∃o:V1,r=o.v∧hs=[ax b true [v0.v,v1.v],aj true o (n0+n1) (cl n0 T0 T1)]:=by
 have fin: ∀o:V1,[ax b true [v0.v,v1.v],aE true 5 1 o.v (ag ((n0:Int)+(n1:Int))) (aQ (ag ((n0:Int)+(n1:Int))) [aO .u8 1 (aI (fun j=>((T0 j:Nat):Int)) (ag (n0:Int)) (ag (n1:Int)) fun j=>((T1 j:Nat):Int))])]=[ax b true [v0.v,v1.v],aj true o (n0+n1) (cl n0 T0 T1)]:=by
  intro o;unfold aj;rw [show ag ((n0:Int)+(n1:Int))=n0+n1 by omega,afe,afe];congr 3;refine aW fun j hj=>?_
  unfold aI cl;by_cases c:j<n0
  ·rw [if_neg (by omega),if_pos c]
  ·rw [if_pos (by omega),if_neg c]
 refine FR _ (n0:Int) (n1:Int) (fun j=>(T0 j:Nat)) (fun j=>(T1 j:Nat)) v0 v1 b ?_;unfold wX
 iterate 3 refine⟨by omega,fun _=>?_⟩
 refine⟨fun h=>by omega,fun _=>⟨by omega,fun _=>⟨by omega,fun _=>⟨by omega,fun _=>⟨fun h=>by omega,fun _=>⟨fun h=>?_,fun h=>?_⟩⟩⟩⟩⟩⟩
 ·refine⟨by omega,fun _=>⟨by omega,fun _ v2=>⟨by omega,fun _ v3 v4=>⟨v4,rfl,?_⟩⟩⟩⟩;exact fin v4
 ·refine⟨by omega,fun _ v2=>⟨by omega,fun _ v3=>⟨v3,rfl,?_⟩⟩⟩;exact fin v3
theorem fU{B:List HP}(b:Nat){x0 x1:Value}(h0:x0.oneCell'=true)(h1:x1.oneCell'=true)(n0 n1:Nat)(T0 T1:Nat→Nat)(hl:n0+n1≤140737488355328)(g0:au B (aB x0 n0 T0))(g1:au B (aB x1 n1 T1)):
  aw ae0 29 [.slice (some ⟨b,0,none⟩) 2 2] ([ax b true [x0,x1]]++B) fun r hs=> ∃o:V1,r=o.v∧hs=[ax b true [x0,x1]]++B++[aj true o (n0+n1) (cl n0 T0 T1)]:=by
 have hm:aw ae0 29 [.slice (some ⟨b,0,none⟩) 2 2] ([ax b true [x0,x1]]++[aB x0 n0 T0,aB x1 n1 T1]) fun r hs=> ∃nw,(∃o:V1,r=o.v∧nw=[aj true o (n0+n1) (cl n0 T0 T1)])∧hs=[ax b true [x0,x1]]++nw:=by
  refine aw.post (zE b ⟨x0,h0⟩ ⟨x1,h1⟩ n0 n1 T0 T1 hl) ?_;rintro r hs ⟨o,hr,rfl⟩;exact⟨_,bX.refl _,_,⟨o,hr,rfl⟩,rfl⟩
 refine aw.post (aw.fp hm ?_ ?_ (EG g0 g1)) ?_
 ·intro h hh;simp only [afd,ae9,or_false]at hh;subst hh;rfl
 ·rintro v nw ⟨o,_,rfl⟩ h hh;simp only [afd,ae9,or_false]at hh;subst hh;rfl
 ·rintro r hs ⟨nw,⟨o,hr,rfl⟩,rfl⟩;exact⟨_,bX.refl _,o,hr,rfl⟩
theorem oY{B:List HP}{x:Value}(hx:x.oneCell'=true)(K:Nat→Nat)(hK: ∀j,K j<256)(hb:au B (aB x 16 K)):
  aw ae0 60 [x] B fun r hs=> ∃(b:Nat) (w:V1),r= .tuple #[.pointer (some ⟨b,0,none⟩),.int .i64 0]∧hs=B++[dz b w,gZ w 4 K]:=by
 have h:aw ae0 60 [x] ([]++[aB x 16 K]) fun r hs=> ∃nw,(∃(b:Nat) (w:V1),r= .tuple #[.pointer (some ⟨b,0,none⟩),.int .i64 0]∧nw=[dz b w,gZ w 4 K])∧hs=[]++nw:=by
  refine aw.post (pI ⟨x,hx⟩ K hK) ?_;rintro r hs ⟨b,w,hr,rfl⟩;exact⟨_,bX.sub (List.sublist_cons_self _ _),_,⟨b,w,hr,rfl⟩,rfl⟩
 refine aw.post (aw.fp h (by simp) ?_ (pK hb)) ?_
 ·rintro v nw ⟨b,w,_,rfl⟩ h hh;simp only [afd,ae9,or_false]at hh;rcases hh with rfl | rfl<;>rfl
 ·rintro r hs ⟨nw,⟨b,w,hr,rfl⟩,rfl⟩;exact⟨B++[dz b w,gZ w 4 K],by simpa using bX.refl _,b,w,hr,rfl⟩
open Go Go.RX Go.Proofs Go.RX.Sh Go.RX.Fg Go.RX.Fi Go.RX.Fj Go.RX.Fk Go.Hd Go.Gh Go.Gc Go.Ae Go.RX.Fe Go.Se
theorem ZU(n m:Nat)(A B:Nat→Nat):aI (fun j=>((A j:Nat):Int)) n m (fun j=>((B j:Nat):Int))=fun j=>if j<n then((A j:Nat):Int)else if j<n+m then((B (j - n):Nat):Int)else((A j:Nat):Int):=by
 funext j;unfold aI;by_cases c:j<n
 ·rw [if_neg (by omega),if_pos c]
 ·rw [if_neg c];by_cases c2:j<n+m
  ·rw [if_pos (by omega),if_pos c2]
  ·rw [if_neg (by omega),if_neg c2]
theorem ra(N:Nat→Nat):(Value.agg (aeU (al .u8 16 (aI (fun _=>0) 0 12 fun j=>((N j:Nat):Int))) []).toArray)=cb (cA N 0):=by
 unfold cb;rw [afq,List.append_nil];refine congrArg (fun l:List Value=>Value.agg l.toArray) (bF .u8 16 fun j hj=>?_);unfold aI cA;by_cases c:j<12
 ·rw [if_pos (by omega),if_pos c];rfl
 ·rw [if_neg (by omega),if_neg c];split<;>rfl
theorem AR{s kn na nt:Nat}(h: ¬isS s):eW s kn na nt=130:=by unfold eW;rw [if_pos h]
theorem Rl{s kn na nt:Nat}(h:isS s)(h2:kn≠gj s):eW s kn na nt=2:=by unfold eW;rw [if_neg (ae6.2 h),if_pos h2]
theorem Rm{s kn na nt:Nat}(h:isS s)(h2:kn=gj s)(h3:1024<na):eW s kn na nt=3:=by unfold eW;rw [if_neg (ae6.2 h),if_neg (ae6.2 h2),if_pos h3]
theorem IX{s kn na nt:Nat}(h:isS s)(h2:kn=gj s)(h3: ¬1024<na)(h4:65536<nt):eW s kn na nt=3:=by unfold eW;rw [if_neg (ae6.2 h),if_neg (ae6.2 h2),if_neg h3,if_pos h4]
theorem s6{s kn na nt:Nat}(h:isS s)(h2:kn=gj s)(h3: ¬1024<na)(h4: ¬65536<nt):eW s kn na nt=0:=by unfold eW;rw [if_neg (ae6.2 h),if_neg (ae6.2 h2),if_neg h3,if_neg h4]
def Af(s kn aU aS na nt:Nat)(K S A T:Nat→Nat)(r:Value)(hs:List HP):Prop:=
 ∃o:V1,r= .tuple #[o.v,.int .i64 (eW s kn na nt:Nat)]∧hs=[aj true o (np s kn aU aS na nt) (eX s K S aU aS na A nt T)]
theorem KF(b:Nat)(N:Nat→Nat):ax b true (aeU (al .u8 12 fun j=>((N j:Nat):Int)) [])=ax b true (al .u8 12 fun j=>((N j:Nat):Int)):=by rw [afq,List.append_nil]
theorem Um(s:Nat)(N:Nat→Nat)(na:Nat)(A:Nat→Nat)(nt:Nat)(Y:Nat→Nat):
  (∀j,j<8→cJ na j=nm s N na A nt Y (0+j))∧(∀j,j<8→cJ nt j=nm s N na A nt Y (8+j))∧(∀j,j<8→cJ (aY s) j=nm s N na A nt Y (8+8+j))∧(∀j,j<12→N j=nm s N na A nt Y (8+8+8+j))∧
  (∀j,j<na→A j=nm s N na A nt Y (8+8+8+12+j))∧(∀j,j<nt→Y j=nm s N na A nt Y (8+8+8+12+na+j)):=by
 unfold nm;refine⟨fun j hj=>?_,fun j hj=>?_,fun j hj=>?_,fun j hj=>?_,fun j hj=>?_,fun j hj=>?_⟩
 ·rw [Nat.zero_add,jD hj]
 ·rw [bS,jD hj]
 ·rw [show 8+8+j=8+(8+j) by omega,bS,bS,jD hj]
 ·rw [show 8+8+8+j=8+(8+(8+j)) by omega,bS,bS,bS,jD hj]
 ·rw [show 8+8+8+12+j=8+(8+(8+(12+j))) by omega,bS,bS,bS,bS,jD hj]
 ·rw [show 8+8+8+12+na+j=8+(8+(8+(12+(na+j)))) by omega,bS,bS,bS,bS,bS]
theorem q_(b CW:Nat)(v0:V1)(K:Nat→Nat)(hK: ∀j,K j<256)(md:Bool)(v7 v8 v9 va:V1)(xy:Value)(VQ:xy.oneCell'=true)(vy:V1)(ny:Nat)(Yy:Nat→Nat)(s:Nat)(N:Nat→Nat)(na:Nat)(A:Nat→Nat)(nt:Nat)(Y:Nat→Nat)(hN: ∀j,N j<256)(hA: ∀j,A j<256)(hY: ∀j,Y j<256)(hl:na+nt+1000≤140737488355328)
  (gy:au [aj md vy ny Yy] (aB xy nt Y)):
  aw ae0 64 [.int .u8 1,aD 1 v0.v 16 48 none,.slice (some ⟨b,0,none⟩) 6 6] [aj false v0 48 K,ax b true [v7.v,v8.v,v9.v,.slice (some ⟨CW,0,none⟩) 12 12,va.v,xy],aj true v7 8 (cJ na),aj true v8 8 (cJ nt),aj true v9 8 (cJ (aY s)),ax CW true (aeU (al .u8 12 fun j=>((N j:Nat):Int)) []),aj true va na A,aj md vy ny Yy]
   fun r hs=> ∃o:V1,r=o.v∧hs=[aj false v0 48 K,ax b true [v7.v,v8.v,v9.v,.slice (some ⟨CW,0,none⟩) 12 12,va.v,xy],aj true v7 8 (cJ na),aj true v8 8 (cJ nt),aj true v9 8 (cJ (aY s)),ax CW true (aeU (al .u8 12 fun j=>((N j:Nat):Int)) []),aj true va na A,aj md vy ny Yy,aj true o 32 (dW s K N na A nt Y)]:=by
 have hm:=Um s N na A nt Y;have bk:au [aj false v0 48 K] (aB (aD 1 v0.v 16 48 none) 32 fun j=>K (16+j)):=
  au.part (lo:=16) (hi:=48) (mx:=none) (au.view (v:=v0) (n:=48) (T:=K)) (by decide) (by decide) (by simp)
 have bn:au [ax CW true (aeU (al .u8 12 fun j=>((N j:Nat):Int)) [])] (aB (.slice (some ⟨CW,0,none⟩) 12 12) 12 N):=by
  rw [KF];exact au.block (fun _ _=>rfl) (Nat.le_refl _)
 have h:=G2 (B:=[aj false v0 48 K,aj true v7 8 (cJ na),aj true v8 8 (cJ nt),aj true v9 8 (cJ (aY s)),ax CW true (aeU (al .u8 12 fun j=>((N j:Nat):Int)) []),aj true va na A,aj md vy ny Yy]) b (x0:=v7.v) (x1:=v8.v) (x2:=v9.v) (x3:= .slice (some ⟨CW,0,none⟩) 12 12) (x4:=va.v) (x5:=xy) (xk:=aD 1 v0.v 16 48 none) v7.one v8.one v9.one rfl va.one VQ (aK ..) 8 8 8 12 na nt (cJ na) (cJ nt) (cJ (aY s)) N A Y (nm s N na A nt Y) (fun j=>K (16+j)) (IU hN hA hY na nt) (fun j=>hK _) hm.1 hm.2.1 hm.2.2.1 hm.2.2.2.1 hm.2.2.2.2.1 hm.2.2.2.2.2 (by omega)
  (au.get 1 rfl) (au.get 2 rfl) (au.get 3 rfl) (au.mid (A:=[aj false v0 48 K,aj true v7 8 (cJ na),aj true v8 8 (cJ nt),aj true v9 8 (cJ (aY s))]) (C:=[aj true va na A,aj md vy ny Yy]) bn) (au.get 5 rfl)
  (au.right (A:=[aj false v0 48 K,aj true v7 8 (cJ na),aj true v8 8 (cJ nt),aj true v9 8 (cJ (aY s)),ax CW true (aeU (al .u8 12 fun j=>((N j:Nat):Int)) []),aj true va na A]) gy)
  (au.left (C:=[aj true v7 8 (cJ na),aj true v8 8 (cJ nt),aj true v9 8 (cJ (aY s)),ax CW true (aeU (al .u8 12 fun j=>((N j:Nat):Int)) []),aj true va na A,aj md vy ny Yy]) bk)
 refine aw.post (aw.pre h (bX.perm (List.Perm.swap _ _ _))) ?_;rintro r hs ⟨o,hr,rfl⟩;exact⟨_,bX.perm (List.Perm.swap _ _ _),o,hr,rfl⟩
set_option maxHeartbeats 4000000 in
theorem Df(s aU aS kn na nt:Nat)(v0 v1 v2:V1)(K S A T:Nat→Nat)(hK: ∀j,K j<256)(hS: ∀j,S j<256)(hA: ∀j,A j<256)(hT: ∀j,T j<256)(oG:aU<18446744073709551616)(jN:aS<18446744073709551616):
  aw ae0 8 [.agg (.int .u16 (s:Int):: .int .u64 (aU:Int)::v0.v::(aeU (al .u8 12 fun j=>((S j:Nat):Int)) [])).toArray,.int .u64 (aS:Int),v1.v,v2.v] [aj false v0 kn K,aj false v1 na A,aj false v2 nt T] (Af s kn aU aS na nt K S A T):=by
 refine aw.post (p:=fun r hs=>(eW s kn na nt≠0∧r= .tuple #[.slice none 0 0,.int .i64 (eW s kn na nt:Nat)])∨(eW s kn na nt=0∧∃o:V1,r= .tuple #[o.v,.int .i64 0]∧hs[8]? =some (aj true o (bN aU aS+(nt+aY s)) (eX s K S aU aS na A nt T)))) ?_ ?_;rotate_left
 ·rintro r hs (⟨h,rfl⟩ | ⟨h,o,rfl,h8⟩)
  ·refine⟨_,bX.trans (bX.sub (List.nil_sublist _)) (bX.jG (t:=5)),⟨.slice none 0 0,rfl⟩,rfl,?_⟩;unfold np;rw [if_neg h];rfl
  ·refine⟨_,bX.lY 8 h8,o,by rw [h];rfl,?_⟩;unfold np;rw [if_pos h]
 refine LH _ (s:Int) (aU:Int) (aS:Int) (kn:Int) (na:Int) (nt:Int) (fun j=>(K j:Nat)) (fun j=>(S j:Nat)) (fun j=>(A j:Nat)) (fun j=>(T j:Nat)) v0 v1 v2 ?_;unfold C9;intro b0 b1 b2;refine⟨_,uC s,?_⟩;rintro x hs ⟨⟨fA,rfl⟩ | ⟨fA,rfl⟩,rfl⟩;rotate_left
 ·refine⟨0,0,0,0,0,130,rfl,rfl,?_⟩;intro b3;refine⟨fun _ b4=> .inl ⟨?_,?_⟩,fun h=>absurd h (by decide)⟩
  ·rw [AR fA];decide
  ·rw [AR fA];rfl
 refine⟨(uD s:Nat),(gj s:Nat),(Dc s:Nat),(aY s:Nat),(Pv s:Nat),0,rfl,rfl,?_⟩;intro b3;refine⟨fun h=>absurd rfl h,fun _=>⟨by omega,fun _=>⟨fun hk b4=> .inl ?_,fun hk=>⟨by omega,fun _=>⟨fun h3 b4=> .inl ?_,fun h3 b4=>⟨by omega,fun _=>⟨fun h4=> .inl ?_,fun h4=>?_⟩⟩⟩⟩⟩⟩⟩
 ·have:=Rl (na:=na) (nt:=nt) fA (show kn≠gj s by omega);exact⟨by rw [this];decide,by rw [this];rfl⟩
 ·have:=Rm (na:=na) (nt:=nt) fA (show kn=gj s by omega) (by omega);exact⟨by rw [this];decide,by rw [this];rfl⟩
 ·have:=IX (na:=na) (nt:=nt) fA (show kn=gj s by omega) (by omega) (by omega);exact⟨by rw [this];decide,by rw [this];rfl⟩
 have qZ:kn=gj s:=by omega
 have j9:=s6 (na:=na) (nt:=nt) fA qZ (by omega) (by omega);have X_:=EO aU aS;have hH:=pN aU aS;have hN:=mO hS aS;have K8:=NK aU aS hA;refine⟨_,uk aU aS oG jN,?_⟩;rintro x hs ⟨v3,rfl,rfl⟩;refine⟨v3,(bN aU aS:Nat),fun j=>(dx aU aS j:Nat),rfl,rfl,?_⟩;intro b5 b6 b7;have vL:=fun(v0:V1)=>uF s aU aS v0 S hS jN
 refine⟨fun hg b8=>?_,fun hg=>?_⟩
 ·
  have jo:4≤s:=by
   rcases fA with h | h | h | h | h<;>subst h<;>first | (exact absurd hg (by decide)) | decide
  have Bb:kn=4*lF s:=by
   rw [qZ];rcases fA with h | h | h | h | h<;>subst h<;>first | (exact absurd jo (by decide)) | rfl
  have Px:aY s=16:=by
   rcases fA with h | h | h | h | h<;>subst h<;>first | (exact absurd jo (by decide)) | rfl
  refine⟨_,fU (B:=[aj true v3 (bN aU aS) (dx aU aS),aj false v1 na A]) b8 v3.one v1.one (bN aU aS) na (dx aU aS) A (by omega) (au.get 0 rfl) (au.get 1 rfl),?_⟩;rintro x hs ⟨v4,rfl,rfl⟩;refine⟨v4,(bN aU aS+na:Nat),fun j=>(BZ aU aS A j:Nat),rfl,rfl,?_⟩;refine⟨_,vL v0,?_⟩;rintro x hs ⟨rfl,rfl⟩;refine⟨fun j=>(aJ S aS j:Nat),rfl,rfl,?_⟩;refine⟨fun r hs=> ∃o:V1,r= .tuple #[o.v,.int .i64 0]∧hs=[aj false v0 kn K,aj true v4 (bN aU aS+na) (BZ aU aS A),aj false v2 nt T]++[aj true o (nt+16) (gE (lF s) K (aJ S aS) (bN aU aS+na) (BZ aU aS A) nt T)],?_,?_⟩
  ·by_cases c5:s=5
   ·have e8:lF s=8:=by unfold lF;rw [if_pos c5]
    rw [e8]at Bb ⊢;subst Bb;exact zA v0.one v4.one v2.one K (aJ S aS) (BZ aU aS A) T hK hN K8 hT (bN aU aS+na) nt (by omega) (au.get 0 rfl) (au.get 1 rfl) (au.get 2 rfl)
   ·have e8:lF s=4:=by unfold lF;rw [if_neg c5]
    rw [e8]at Bb ⊢;subst Bb;exact zx v0.one v4.one v2.one K (aJ S aS) (BZ aU aS A) T hK hN K8 hT (bN aU aS+na) nt (by omega) (au.get 0 rfl) (au.get 1 rfl) (au.get 2 rfl)
  rintro x hs ⟨v5,rfl,rfl⟩;refine⟨v5,(nt+16:Nat),0,fun j=>(gE (lF s) K (aJ S aS) (bN aU aS+na) (BZ aU aS A) nt T j:Nat),rfl,rfl,?_⟩
  iterate 3 refine⟨by omega,fun _=>?_⟩
  refine⟨by omega,fun _ v6=> .inr ⟨j9,v6,rfl,?_⟩⟩;show some (aE true 5 1 v6.v _ _)=_;congr 1;unfold aj;rw [show ag (((bN aU aS:Nat):Int)+((nt+16:Nat):Int))=bN aU aS+(nt+aY s) by omega,afe,afe];congr 1;refine aW fun j hj=>?_
  unfold eX og;rw [if_pos jo,ZU];dsimp only;unfold cl;by_cases c:j<bN aU aS
  ·rw [if_pos c,if_pos c]
  ·rw [if_neg c,if_neg c,if_pos (by omega)]
 ·
  have jo: ¬4≤s:=by
   rcases fA with h | h | h | h | h<;>subst h<;>first | (exact absurd rfl hg) | decide
  have LL:Dc s=16:=by
   rcases fA with h | h | h | h | h<;>subst h<;>first | (exact absurd (by decide) jo) | rfl
  have OK:gj s=48:=by
   rcases fA with h | h | h | h | h<;>subst h<;>first | (exact absurd (by decide) jo) | rfl
  have eh:uD s=1:=by
   rcases fA with h | h | h | h | h<;>subst h<;>first | (exact absurd (by decide) jo) | rfl
  have et:aY s≤10:=by
   rcases fA with h | h | h | h | h<;>subst h<;>first | (exact absurd (by decide) jo) | decide
  rw [LL,eh];have U6:kn=48:=by rw [qZ,OK]
  have ti:ag ((16:Nat):Int)=16:=rfl;refine⟨by omega,fun _=>⟨by omega,fun _=>?_⟩⟩;have U7:au [aj false v0 kn K] (aB (aD 1 v0.v 0 16 none) 16 K):=by
   have:=au.part (lo:=0) (hi:=16) (mx:=none) (au.view (v:=v0) (n:=kn) (T:=K)) (by decide) (by omega) (by simp);simp only [Nat.zero_add]at this;exact this
  refine⟨_,oY (B:=[aj false v0 kn K]) (aK ..) K hK U7,?_⟩;rintro x hs ⟨b8,v4,rfl,rfl⟩;refine⟨b8,v4,(4*(4+7):Nat),fun j=>(sb j:Nat),cw 4 K,rfl,rfl,?_⟩;intro b9 Pa Xn Rw;refine⟨_,fU (B:=[aj true v3 (bN aU aS) (dx aU aS),aj false v1 na A]) Rw v3.one v1.one (bN aU aS) na (dx aU aS) A (by omega) (au.get 0 rfl) (au.get 1 rfl),?_⟩;rintro x hs ⟨v5,rfl,rfl⟩;refine⟨v5,(bN aU aS+na:Nat),fun j=>(BZ aU aS A j:Nat),rfl,rfl,?_⟩;intro Pb;refine⟨_,vL v0,?_⟩;rintro x hs ⟨rfl,rfl⟩;refine⟨fun j=>(aJ S aS j:Nat),rfl,rfl,?_⟩;intro KZ K1;rw [ra];have hC:=f_ hN (c:=0) (by decide);refine⟨_,dO (B:=[aj false v2 nt T]) v2.one b8 K1 v4 4 (by decide) (by decide) K (cA (aJ S aS) 0) T hK hC hT nt (by omega) au.view,?_⟩;rintro x hs ⟨v6,rfl,rfl⟩;have eY:cS 4 K (cA (aJ S aS) 0) T=eg s K (aJ S aS) T:=by unfold eg;rw [if_neg jo]
  have hY:=yq (s:=s) hK hN hT;rw [eY];refine⟨v6,(nt:Nat),fun j=>(eg s K (aJ S aS) T j:Nat),rfl,rfl,?_⟩;refine⟨_,vL v0,?_⟩;rintro x hs ⟨rfl,rfl⟩;refine⟨fun j=>(aJ S aS j:Nat),rfl,rfl,?_⟩;intro CW;refine⟨by omega,fun _=>⟨by omega,fun _=>?_⟩⟩;refine⟨_,iU (bN aU aS+na),?_⟩;rintro x hs ⟨v7,rfl,rfl⟩;refine⟨v7,fun j=>(cJ (bN aU aS+na) j:Nat),rfl,rfl,?_⟩;refine⟨_,iU nt,?_⟩;rintro x hs ⟨v8,rfl,rfl⟩;refine⟨v8,fun j=>(cJ nt j:Nat),rfl,rfl,?_⟩;refine⟨_,iU (aY s),?_⟩;rintro x hs ⟨v9,rfl,rfl⟩;refine⟨v9,fun j=>(cJ (aY s) j:Nat),rfl,rfl,?_⟩;intro Rx;have t48:ag (kn:Int)=48:=by omega
  dsimp only [bo,bi,bn];rw [t48];refine⟨_,q_ Rx CW v0 K hK true v7 v8 v9 v5 v6.v v6.one v6 nt (eg s K (aJ S aS) T) s (aJ S aS) (bN aU aS+na) (BZ aU aS A) nt (eg s K (aJ S aS) T) hN K8 hY (by omega) au.bytes,?_⟩;rintro x hs ⟨v10,rfl,rfl⟩;refine⟨v10,(32:Nat),fun j=>(dW s K (aJ S aS) (bN aU aS+na) (BZ aU aS A) nt (eg s K (aJ S aS) T) j:Nat),rfl,rfl,?_⟩;refine⟨by omega,fun _=>⟨by omega,fun _=>⟨by omega,fun _ v11=>⟨by omega,fun _=>⟨by omega,fun _=>⟨by omega,fun _=>⟨by omega,fun _ oL=> .inr ⟨j9,oL,rfl,?_⟩⟩⟩⟩⟩⟩⟩⟩;show some (aE true 5 1 oL.v _ _)=_;congr 1;unfold aj;rw [show ag (((bN aU aS:Nat):Int)+((nt:Int)+((aY s:Nat):Int)))=bN aU aS+(nt+aY s) by omega,show ag ((nt:Int)+((aY s:Nat):Int))=nt+aY s by omega,afe,afe,afe];congr 1;refine aW fun j hj=>?_
  unfold eX og;rw [if_neg jo];unfold aI cl;by_cases c:j<bN aU aS
  ·rw [if_neg (by omega),if_pos c]
  ·rw [if_pos (by omega),if_neg c];by_cases c2:j - bN aU aS<nt
   ·rw [if_neg (by omega),if_pos c2]
   ·rw [if_pos (by omega),if_neg c2]
end Go.RX.Fm
