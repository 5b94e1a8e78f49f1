/- Sums. -/
import Derived.Test.YtmgbbbmdbpbeeaaGreatM43
open Go.Extern.BytealgMakeNoZero renaming digits → afw
open Go.IntKind renaming wrap → ae
open Go.Proofs.Tryz renaming prog → ae0
open Int renaming natCast_add → afy, toNat → ag, toNat_natCast → afe
open List renaming getD_cons_succ → aeW, getD_cons_zero → ah, map_cons → afj
open List.cons renaming injEq → ae8
open Nat renaming xor_comm → ae7
namespace Go.RX.Fm
open Go Go.RX Go.Proofs Go.RX.Sh Go.RX.Fg Go.RX.Fj Go.RX.Fk
set_option maxHeartbeats 4000000 in
theorem Ca(b:Nat)(b1:Nat)(vh vk w0 w1:V1)(n0 n1:Nat)(T0 T1 M:Nat→Nat)(hM: ∀j,M j<256)(Cb: ∀j,j<n0→T0 j=M (0+j))(Cc: ∀j,j<n1→T1 j=M (n0+j))(A0 A1:Nat→Int)(tu: ∀j,j<8→A0 j=(H0 j:Nat))(qP: ∀j,j<64→A1 j=(K0 j:Nat))(hl:n0+n1+300≤140737488355328):
  aw ae0 139 [.pointer (some ⟨b,0,none⟩),.slice (some ⟨b1,0,none⟩) 2 2] [qR b vh vk,dM vh 8 A0,dM vk 64 A1,ax b1 true [w0.v,w1.v],aj false w0 n0 T0,aj false w1 n1 T1] fun r hs=> ∃o:V1,r=o.v∧hs=[ax b1 true [w0.v,w1.v],aj false w0 n0 T0,aj false w1 n1 T1,aj true o 32 (eV (n0+n1) M)]:=by
 refine aw.post (p:=fun r hs=> ∃o:V1,r=o.v∧hs[3]? =some (ax b1 true [w0.v,w1.v])∧hs[4]? =some (aj false w0 n0 T0)∧hs[5]? =some (aj false w1 n1 T1)∧hs[10]? =some (aj true o 32 (eV (n0+n1) M))) ?_ ?_;rotate_left
 ·rintro r hs ⟨o,rfl,g0,g1,g2,g3⟩;refine⟨_,bX.idx [3,4,5,10] (by decide) ?_,o,rfl,rfl⟩;intro m u hu
  match m,hu with
  | 0,hu=>cases hu;exact⟨3,rfl,g0⟩
  | 1,hu=>cases hu;exact⟨4,rfl,g1⟩
  | 2,hu=>cases hu;exact⟨5,rfl,g2⟩
  | 3,hu=>cases hu;exact⟨10,rfl,g3⟩
  | m+4,hu=>simp at hu
 refine Jk _ (n0:Int) (n1:Int) A0 A1 (fun j=>(T0 j:Nat)) (fun j=>(T1 j:Nat)) vh vk w0 w1 b b1 ?_;unfold zY;have hS:=BW hM (n0+n1);obtain⟨N,hN⟩: ∃N,N=n0+n1:=⟨_,rfl⟩;rw [←hN]at hS ⊢;have hNl:N+300≤140737488355328:=by omega
 have CN: ∀j,j<N→cC N M j=M j:=fun j hj=>by unfold cC;rw [if_pos hj]
 have hq:gF N=64*((N+8)/64+1):=rfl;refine⟨by omega,fun _=>⟨by omega,fun _=>?_⟩⟩;intro u0;refine⟨fun e=> ∃q r:Nat,64*q+r=n0∧e.i=[(r:Int)]∧(∀j,j<r→(e.a.getD 0 fun _=>0) j=(cC N M (64*q+j):Nat))∧∀j,j<8→(e.a.getD 1 fun _=>0) j=(oe (cC N M) q j:Nat),fun e=>(e.i.getD 0 0:Int).toNat,?_,?_⟩
 ·refine⟨u0,_,_,_,rfl,fun _ _=>rfl,rfl,rfl,fun _ _=>rfl,0,n0,by omega,rfl,fun j hj=>?_,fun j hj=>?_⟩
  ·simp only [ah];rw [CN _ (by omega),Cb j hj]
  ·simp only [ah,aeW];exact tu j hj
 rintro z0 x B0 C0 ⟨q,r,BF,hx,hB,hH⟩;simp only [ae8,and_true]at hx;subst hx;simp only [ah,aeW]at hB hH;refine⟨by omega,fun _=>⟨fun iH=>?_,fun bU=>?_⟩⟩
 ·refine⟨_,dF (B:=[aE true 5 1 z0.v r (aQ r [aO .u8 1 B0])]) b vh vk (aK 1 z0.v 0 64 none) C0 A1 K0 (oe (cC N M) q) (fun i=>cC N M (64*q+i)) hH (kA _ q) qP (fun j=>hS _) (lE (by omega) hB),?_⟩;rintro x hs ⟨C,rfl,rfl,hC⟩;refine⟨C,rfl,rfl,by omega,fun _=>⟨by omega,fun _=>?_⟩⟩;intro u;refine⟨u,_,_,_,rfl,fun _ _=>rfl,rfl,rfl,fun _ _=>rfl,⟨q+1,r - 64,by omega,congrArg (fun z:Int=>[z]) (by omega),fun j hj=>?_,fun j hj=>?_⟩,?_⟩
  ·simp only [ah];unfold aA;rw [hB _ (by omega)];congr 2;omega
  ·simp only [ah,aeW];exact hC j hj
  ·simp only [ah];omega
 refine⟨by omega,fun _=>⟨by omega,fun _=>?_⟩⟩;intro u1;refine⟨fun e=> ∃q r:Nat,64*q+r=n0+n1∧e.i=[(r:Int)]∧(∀j,j<r→(e.a.getD 0 fun _=>0) j=(cC N M (64*q+j):Nat))∧∀j,j<8→(e.a.getD 1 fun _=>0) j=(oe (cC N M) q j:Nat),fun e=>(e.i.getD 0 0:Int).toNat,?_,?_⟩
 ·refine⟨u1,_,_,_,rfl,fun _ _=>rfl,rfl,rfl,fun _ _=>rfl,q,r+n1,by omega,by rw [afy],fun j hj=>?_,fun j hj=>?_⟩
  ·simp only [ah];have tr:ag (r:Int)=r:=rfl;have tn:ag (n1:Int)=n1:=rfl;rw [tr,tn];unfold aI;by_cases c:j<r
   ·rw [if_neg (by omega)];exact hB j c
   ·rw [if_pos (by omega)];show((T1 (j - r):Nat):Int)=_;rw [Cc _ (by omega),CN _ (by omega)];congr 2;omega
  ·simp only [ah,aeW];exact hH j hj
 clear hB hH BF bU;rintro z1 x B1 C1 ⟨q,r,BF,hx,hB,hH⟩;simp only [ae8,and_true]at hx;subst hx;simp only [ah,aeW]at hB hH;refine⟨by omega,fun _=>⟨fun iH=>?_,fun bU=>?_⟩⟩
 ·refine⟨_,dF (B:=[aE true 5 1 z1.v r (aQ r [aO .u8 1 B1])]) b vh vk (aK 1 z1.v 0 64 none) C1 A1 K0 (oe (cC N M) q) (fun i=>cC N M (64*q+i)) hH (kA _ q) qP (fun j=>hS _) (lE (by omega) hB),?_⟩;rintro x hs ⟨C,rfl,rfl,hC⟩;refine⟨C,rfl,rfl,by omega,fun _=>⟨by omega,fun _=>?_⟩⟩;intro u;refine⟨u,_,_,_,rfl,fun _ _=>rfl,rfl,rfl,fun _ _=>rfl,⟨q+1,r - 64,by omega,congrArg (fun z:Int=>[z]) (by omega),fun j hj=>?_,fun j hj=>?_⟩,?_⟩
  ·simp only [ah];unfold aA;rw [hB _ (by omega)];congr 2;omega
  ·simp only [ah,aeW];exact hC j hj
  ·simp only [ah];omega
 intro b2;refine⟨by omega,fun _=>?_⟩;intro u8;have hqN:N=64*q+r:=by omega
 have ZQ:r<64:=by omega
 have tr:ag (r:Int)=r:=rfl;rw [tr];refine⟨fun e=> ∃k:Nat,r+1≤k∧k+8+64*q≤gF N∧e.i=[(k:Int)]∧∀j,j<k→(e.a.getD 0 fun _=>0) j=(cC N M (64*q+j):Nat),fun e=>((200:Int) - e.i.getD 0 0).toNat,⟨u8,_,_,rfl,rfl,rfl,fun _ _=>rfl,r+1,by omega,by omega,by rw [afy];rfl,fun j hj=>?_⟩,?_⟩
 ·simp only [ah];unfold aI;by_cases c:j<r
  ·rw [if_neg (by omega)];exact hB j c
  ·have:j=r:=by omega
   subst this;rw [if_pos (by omega),Nat.sub_self];unfold cC;rw [if_neg (by omega),if_pos (by omega)];rfl
 rintro z8 x D ⟨k,IC,Bb,hx,hD⟩;simp only [ae8,and_true]at hx;subst hx;simp only [ah]at hD;have yg:ak .rem .i64 ((k:Int)+8) 64=(((k+8)%64:Nat):Int):=by rw [show(k:Int)+8=((k+8:Nat):Int) by omega];rfl
 rw [yg];have tk:ag (k:Int)=k:=rfl;rw [tk]
 iterate 3 refine⟨by omega,fun _=>?_⟩
 refine⟨fun eZ=>?_,fun heq=>?_⟩
 ·intro b3;refine⟨by omega,fun _=>?_⟩;intro u;refine⟨u,_,_,rfl,rfl,rfl,fun _ _=>rfl,⟨k+1,by omega,by omega,by rw [afy];rfl,fun j hj=>?_⟩,?_⟩
  ·simp only [ah];unfold aq;split
   ·rename_i c;unfold cC;rw [if_neg (by omega),if_neg (by omega),if_pos (by omega)];rfl
   ·exact hD j (by omega)
  ·simp only [ah];omega
 have hk:k+8+64*q=gF N:=by omega
 intro u9;refine⟨by omega,fun _=>?_⟩;intro ZR;have hw:ae .u64 ((ae .u64 (ae .u64 (n0:Int)))+(ae .u64 (n1:Int)))=(N:Int):=by
  rw [hN];simp only [oD (show n0<2^64 by omega)];rw [oD (show n1<2^64 by omega),←afy,oD (show n0+n1<2^64 by omega)]
 rw [hw];refine⟨fun e=> ∃p:Nat,64*p≤gF N∧e.i=[((gF N - 64*p:Nat):Int)]∧(∀j,j<gF N - 64*p→(e.a.getD 0 fun _=>0) j=(cC N M (64*p+j):Nat))∧∀j,j<8→(e.a.getD 1 fun _=>0) j=(oe (cC N M) p j:Nat),fun e=>(e.i.getD 0 0:Int).toNat,⟨ZR,_,_,_,rfl,fun _ _=>rfl,rfl,rfl,fun _ _=>rfl,q,by omega,congrArg (fun z:Int=>[z]) (by omega),fun j hj=>?_,fun j hj=>?_⟩,?_⟩
 ·simp only [ah];unfold aI;by_cases c:j<k
  ·rw [if_neg (by omega)];exact hD j c
  ·rw [if_pos (by omega),NB (by omega) _ (by omega)];unfold cC;rw [if_neg (by omega),if_neg (by omega),if_neg (by omega)];congr 2;omega
 ·simp only [ah,aeW];exact hH j hj
 rintro WZ x E F ⟨p,hp,hx,hE,hF⟩;simp only [ae8,and_true]at hx;subst hx;simp only [ah,aeW]at hE hF;have tp:ag ((gF N - 64*p:Nat):Int)=gF N - 64*p:=rfl;dsimp only [bo,bi,bn];rw [tp];refine⟨by omega,fun _=>⟨fun qx=>?_,fun vL=>?_⟩⟩
 ·refine⟨by omega,fun _=>?_⟩;refine⟨_,dF (B:=[aE true 5 1 WZ.v (gF N - 64*p) (aQ (gF N - 64*p) [aO .u8 1 E])]) b vh vk (aK 1 WZ.v 0 64 none) F A1 K0 (oe (cC N M) p) (fun i=>cC N M (64*p+i)) hF (kA _ p) qP (fun j=>hS _) (lE (by omega) hE),?_⟩;rintro x hs ⟨C,rfl,rfl,hC⟩;refine⟨C,rfl,rfl,by omega,fun _=>⟨by omega,fun _=>?_⟩⟩;intro u;refine⟨u,_,_,_,rfl,fun _ _=>rfl,rfl,rfl,fun _ _=>rfl,⟨p+1,by omega,congrArg (fun z:Int=>[z]) (by omega),fun j hj=>?_,fun j hj=>?_⟩,?_⟩
  ·simp only [ah];unfold aA;rw [hE _ (by omega)];congr 2;omega
  ·simp only [ah,aeW];exact hC j hj
  ·simp only [ah];omega
 ·have Rk:p=(N+8)/64+1:=by omega
  intros
  refine⟨_,rfl,rfl,rfl,rfl,congrArg some ?_⟩;unfold aj eV;rw [aW (n:=32) (g:=fun j=>((Sh.bytesOf (oe (cC N M) ((N+8)/64+1)) j:Nat):Int))];intro j hj;rw [←Rk];exact Sc hF j hj
set_option maxHeartbeats 4000000 in
theorem Cd(b:Nat)(vl:V1)(vh vk w0 w1 w2 w3 w4 w5 w6:V1)(n0 n1 n2 n3 n4 n5 n6:Nat)(T0 T1 T2 T3 T4 T5 T6 M:Nat→Nat)(hM: ∀j,M j<256)(Cb: ∀j,j<n0→T0 j=M (0+j))(Cc: ∀j,j<n1→T1 j=M (n0+j))(N0: ∀j,j<n2→T2 j=M (n0+n1+j))(N1: ∀j,j<n3→T3 j=M (n0+n1+n2+j))(N2: ∀j,j<n4→T4 j=M (n0+n1+n2+n3+j))(N3: ∀j,j<n5→T5 j=M (n0+n1+n2+n3+n4+j))(Uk: ∀j,j<n6→T6 j=M (n0+n1+n2+n3+n4+n5+j))(A0 A1:Nat→Int)(tu: ∀j,j<8→A0 j=(H0 j:Nat))(qP: ∀j,j<64→A1 j=(K0 j:Nat))(hl:n0+n1+n2+n3+n4+n5+n6+300≤140737488355328):
  aw ae0 139 [.pointer (some ⟨b,0,none⟩),vl.v] [qR b vh vk,dM vh 8 A0,dM vk 64 A1,aE true 24 1 vl.v 7 [w0.v,w1.v,w2.v,w3.v,w4.v,w5.v,w6.v],aj false w0 n0 T0,aj false w1 n1 T1,aj false w2 n2 T2,aj false w3 n3 T3,aj false w4 n4 T4,aj false w5 n5 T5,aj false w6 n6 T6] fun r hs=> ∃o:V1,r=o.v∧hs=[aE true 24 1 vl.v 7 [w0.v,w1.v,w2.v,w3.v,w4.v,w5.v,w6.v],aj false w0 n0 T0,aj false w1 n1 T1,aj false w2 n2 T2,aj false w3 n3 T3,aj false w4 n4 T4,aj false w5 n5 T5,aj false w6 n6 T6,aj true o 32 (eV (n0+n1+n2+n3+n4+n5+n6) M)]:=by
 refine aw.post (p:=fun r hs=> ∃o:V1,r=o.v∧hs[3]? =some (aE true 24 1 vl.v 7 [w0.v,w1.v,w2.v,w3.v,w4.v,w5.v,w6.v])∧hs[4]? =some (aj false w0 n0 T0)∧hs[5]? =some (aj false w1 n1 T1)∧hs[6]? =some (aj false w2 n2 T2)∧hs[7]? =some (aj false w3 n3 T3)∧hs[8]? =some (aj false w4 n4 T4)∧hs[9]? =some (aj false w5 n5 T5)∧hs[10]? =some (aj false w6 n6 T6)∧hs[15]? =some (aj true o 32 (eV (n0+n1+n2+n3+n4+n5+n6) M))) ?_ ?_;rotate_left
 ·rintro r hs ⟨o,rfl,g0,g1,g2,g3,g4,g5,g6,g7,g8⟩;refine⟨_,bX.idx [3,4,5,6,7,8,9,10,15] (by decide) ?_,o,rfl,rfl⟩;intro m u hu
  match m,hu with
  | 0,hu=>cases hu;exact⟨3,rfl,g0⟩
  | 1,hu=>cases hu;exact⟨4,rfl,g1⟩
  | 2,hu=>cases hu;exact⟨5,rfl,g2⟩
  | 3,hu=>cases hu;exact⟨6,rfl,g3⟩
  | 4,hu=>cases hu;exact⟨7,rfl,g4⟩
  | 5,hu=>cases hu;exact⟨8,rfl,g5⟩
  | 6,hu=>cases hu;exact⟨9,rfl,g6⟩
  | 7,hu=>cases hu;exact⟨10,rfl,g7⟩
  | 8,hu=>cases hu;exact⟨15,rfl,g8⟩
  | m+9,hu=>simp at hu
 refine Jl _ (n0:Int) (n1:Int) (n2:Int) (n3:Int) (n4:Int) (n5:Int) (n6:Int) A0 A1 (fun j=>(T0 j:Nat)) (fun j=>(T1 j:Nat)) (fun j=>(T2 j:Nat)) (fun j=>(T3 j:Nat)) (fun j=>(T4 j:Nat)) (fun j=>(T5 j:Nat)) (fun j=>(T6 j:Nat)) vh vk vl w0 w1 w2 w3 w4 w5 w6 b ?_;unfold zZ;have hS:=BW hM (n0+n1+n2+n3+n4+n5+n6);obtain⟨N,hN⟩: ∃N,N=n0+n1+n2+n3+n4+n5+n6:=⟨_,rfl⟩;rw [←hN]at hS ⊢;have hNl:N+300≤140737488355328:=by omega
 have CN: ∀j,j<N→cC N M j=M j:=fun j hj=>by unfold cC;rw [if_pos hj]
 have hq:gF N=64*((N+8)/64+1):=rfl;refine⟨by omega,fun _=>⟨by omega,fun _=>?_⟩⟩;intro u0;refine⟨fun e=> ∃q r:Nat,64*q+r=n0∧e.i=[(r:Int)]∧(∀j,j<r→(e.a.getD 0 fun _=>0) j=(cC N M (64*q+j):Nat))∧∀j,j<8→(e.a.getD 1 fun _=>0) j=(oe (cC N M) q j:Nat),fun e=>(e.i.getD 0 0:Int).toNat,?_,?_⟩
 ·refine⟨u0,_,_,_,rfl,fun _ _=>rfl,rfl,rfl,fun _ _=>rfl,0,n0,by omega,rfl,fun j hj=>?_,fun j hj=>?_⟩
  ·simp only [ah];rw [CN _ (by omega),Cb j hj]
  ·simp only [ah,aeW];exact tu j hj
 rintro z0 x B0 C0 ⟨q,r,BF,hx,hB,hH⟩;simp only [ae8,and_true]at hx;subst hx;simp only [ah,aeW]at hB hH;refine⟨by omega,fun _=>⟨fun iH=>?_,fun bU=>?_⟩⟩
 ·refine⟨_,dF (B:=[aE true 5 1 z0.v r (aQ r [aO .u8 1 B0])]) b vh vk (aK 1 z0.v 0 64 none) C0 A1 K0 (oe (cC N M) q) (fun i=>cC N M (64*q+i)) hH (kA _ q) qP (fun j=>hS _) (lE (by omega) hB),?_⟩;rintro x hs ⟨C,rfl,rfl,hC⟩;refine⟨C,rfl,rfl,by omega,fun _=>⟨by omega,fun _=>?_⟩⟩;intro u;refine⟨u,_,_,_,rfl,fun _ _=>rfl,rfl,rfl,fun _ _=>rfl,⟨q+1,r - 64,by omega,congrArg (fun z:Int=>[z]) (by omega),fun j hj=>?_,fun j hj=>?_⟩,?_⟩
  ·simp only [ah];unfold aA;rw [hB _ (by omega)];congr 2;omega
  ·simp only [ah,aeW];exact hC j hj
  ·simp only [ah];omega
 refine⟨by omega,fun _=>⟨by omega,fun _=>?_⟩⟩;intro u1;refine⟨fun e=> ∃q r:Nat,64*q+r=n0+n1∧e.i=[(r:Int)]∧(∀j,j<r→(e.a.getD 0 fun _=>0) j=(cC N M (64*q+j):Nat))∧∀j,j<8→(e.a.getD 1 fun _=>0) j=(oe (cC N M) q j:Nat),fun e=>(e.i.getD 0 0:Int).toNat,?_,?_⟩
 ·refine⟨u1,_,_,_,rfl,fun _ _=>rfl,rfl,rfl,fun _ _=>rfl,q,r+n1,by omega,by rw [afy],fun j hj=>?_,fun j hj=>?_⟩
  ·simp only [ah];have tr:ag (r:Int)=r:=rfl;have tn:ag (n1:Int)=n1:=rfl;rw [tr,tn];unfold aI;by_cases c:j<r
   ·rw [if_neg (by omega)];exact hB j c
   ·rw [if_pos (by omega)];show((T1 (j - r):Nat):Int)=_;rw [Cc _ (by omega),CN _ (by omega)];congr 2;omega
  ·simp only [ah,aeW];exact hH j hj
 clear hB hH BF bU;rintro z1 x B1 C1 ⟨q,r,BF,hx,hB,hH⟩;simp only [ae8,and_true]at hx;subst hx;simp only [ah,aeW]at hB hH;refine⟨by omega,fun _=>⟨fun iH=>?_,fun bU=>?_⟩⟩
 ·refine⟨_,dF (B:=[aE true 5 1 z1.v r (aQ r [aO .u8 1 B1])]) b vh vk (aK 1 z1.v 0 64 none) C1 A1 K0 (oe (cC N M) q) (fun i=>cC N M (64*q+i)) hH (kA _ q) qP (fun j=>hS _) (lE (by omega) hB),?_⟩;rintro x hs ⟨C,rfl,rfl,hC⟩;refine⟨C,rfl,rfl,by omega,fun _=>⟨by omega,fun _=>?_⟩⟩;intro u;refine⟨u,_,_,_,rfl,fun _ _=>rfl,rfl,rfl,fun _ _=>rfl,⟨q+1,r - 64,by omega,congrArg (fun z:Int=>[z]) (by omega),fun j hj=>?_,fun j hj=>?_⟩,?_⟩
  ·simp only [ah];unfold aA;rw [hB _ (by omega)];congr 2;omega
  ·simp only [ah,aeW];exact hC j hj
  ·simp only [ah];omega
 refine⟨by omega,fun _=>⟨by omega,fun _=>?_⟩⟩;intro u2;refine⟨fun e=> ∃q r:Nat,64*q+r=n0+n1+n2∧e.i=[(r:Int)]∧(∀j,j<r→(e.a.getD 0 fun _=>0) j=(cC N M (64*q+j):Nat))∧∀j,j<8→(e.a.getD 1 fun _=>0) j=(oe (cC N M) q j:Nat),fun e=>(e.i.getD 0 0:Int).toNat,?_,?_⟩
 ·refine⟨u2,_,_,_,rfl,fun _ _=>rfl,rfl,rfl,fun _ _=>rfl,q,r+n2,by omega,by rw [afy],fun j hj=>?_,fun j hj=>?_⟩
  ·simp only [ah];have tr:ag (r:Int)=r:=rfl;have tn:ag (n2:Int)=n2:=rfl;rw [tr,tn];unfold aI;by_cases c:j<r
   ·rw [if_neg (by omega)];exact hB j c
   ·rw [if_pos (by omega)];show((T2 (j - r):Nat):Int)=_;rw [N0 _ (by omega),CN _ (by omega)];congr 2;omega
  ·simp only [ah,aeW];exact hH j hj
 clear hB hH BF bU;rintro z2 x B2 C2 ⟨q,r,BF,hx,hB,hH⟩;simp only [ae8,and_true]at hx;subst hx;simp only [ah,aeW]at hB hH;refine⟨by omega,fun _=>⟨fun iH=>?_,fun bU=>?_⟩⟩
 ·refine⟨_,dF (B:=[aE true 5 1 z2.v r (aQ r [aO .u8 1 B2])]) b vh vk (aK 1 z2.v 0 64 none) C2 A1 K0 (oe (cC N M) q) (fun i=>cC N M (64*q+i)) hH (kA _ q) qP (fun j=>hS _) (lE (by omega) hB),?_⟩;rintro x hs ⟨C,rfl,rfl,hC⟩;refine⟨C,rfl,rfl,by omega,fun _=>⟨by omega,fun _=>?_⟩⟩;intro u;refine⟨u,_,_,_,rfl,fun _ _=>rfl,rfl,rfl,fun _ _=>rfl,⟨q+1,r - 64,by omega,congrArg (fun z:Int=>[z]) (by omega),fun j hj=>?_,fun j hj=>?_⟩,?_⟩
  ·simp only [ah];unfold aA;rw [hB _ (by omega)];congr 2;omega
  ·simp only [ah,aeW];exact hC j hj
  ·simp only [ah];omega
 refine⟨by omega,fun _=>⟨by omega,fun _=>?_⟩⟩;intro u3;refine⟨fun e=> ∃q r:Nat,64*q+r=n0+n1+n2+n3∧e.i=[(r:Int)]∧(∀j,j<r→(e.a.getD 0 fun _=>0) j=(cC N M (64*q+j):Nat))∧∀j,j<8→(e.a.getD 1 fun _=>0) j=(oe (cC N M) q j:Nat),fun e=>(e.i.getD 0 0:Int).toNat,?_,?_⟩
 ·refine⟨u3,_,_,_,rfl,fun _ _=>rfl,rfl,rfl,fun _ _=>rfl,q,r+n3,by omega,by rw [afy],fun j hj=>?_,fun j hj=>?_⟩
  ·simp only [ah];have tr:ag (r:Int)=r:=rfl;have tn:ag (n3:Int)=n3:=rfl;rw [tr,tn];unfold aI;by_cases c:j<r
   ·rw [if_neg (by omega)];exact hB j c
   ·rw [if_pos (by omega)];show((T3 (j - r):Nat):Int)=_;rw [N1 _ (by omega),CN _ (by omega)];congr 2;omega
  ·simp only [ah,aeW];exact hH j hj
 clear hB hH BF bU;rintro z3 x B3 C3 ⟨q,r,BF,hx,hB,hH⟩;simp only [ae8,and_true]at hx;subst hx;simp only [ah,aeW]at hB hH;refine⟨by omega,fun _=>⟨fun iH=>?_,fun bU=>?_⟩⟩
 ·refine⟨_,dF (B:=[aE true 5 1 z3.v r (aQ r [aO .u8 1 B3])]) b vh vk (aK 1 z3.v 0 64 none) C3 A1 K0 (oe (cC N M) q) (fun i=>cC N M (64*q+i)) hH (kA _ q) qP (fun j=>hS _) (lE (by omega) hB),?_⟩;rintro x hs ⟨C,rfl,rfl,hC⟩;refine⟨C,rfl,rfl,by omega,fun _=>⟨by omega,fun _=>?_⟩⟩;intro u;refine⟨u,_,_,_,rfl,fun _ _=>rfl,rfl,rfl,fun _ _=>rfl,⟨q+1,r - 64,by omega,congrArg (fun z:Int=>[z]) (by omega),fun j hj=>?_,fun j hj=>?_⟩,?_⟩
  ·simp only [ah];unfold aA;rw [hB _ (by omega)];congr 2;omega
  ·simp only [ah,aeW];exact hC j hj
  ·simp only [ah];omega
 refine⟨by omega,fun _=>⟨by omega,fun _=>?_⟩⟩;intro u4;refine⟨fun e=> ∃q r:Nat,64*q+r=n0+n1+n2+n3+n4∧e.i=[(r:Int)]∧(∀j,j<r→(e.a.getD 0 fun _=>0) j=(cC N M (64*q+j):Nat))∧∀j,j<8→(e.a.getD 1 fun _=>0) j=(oe (cC N M) q j:Nat),fun e=>(e.i.getD 0 0:Int).toNat,?_,?_⟩
 ·refine⟨u4,_,_,_,rfl,fun _ _=>rfl,rfl,rfl,fun _ _=>rfl,q,r+n4,by omega,by rw [afy],fun j hj=>?_,fun j hj=>?_⟩
  ·simp only [ah];have tr:ag (r:Int)=r:=rfl;have tn:ag (n4:Int)=n4:=rfl;rw [tr,tn];unfold aI;by_cases c:j<r
   ·rw [if_neg (by omega)];exact hB j c
   ·rw [if_pos (by omega)];show((T4 (j - r):Nat):Int)=_;rw [N2 _ (by omega),CN _ (by omega)];congr 2;omega
  ·simp only [ah,aeW];exact hH j hj
 clear hB hH BF bU;rintro z4 x B4 C4 ⟨q,r,BF,hx,hB,hH⟩;simp only [ae8,and_true]at hx;subst hx;simp only [ah,aeW]at hB hH;refine⟨by omega,fun _=>⟨fun iH=>?_,fun bU=>?_⟩⟩
 ·refine⟨_,dF (B:=[aE true 5 1 z4.v r (aQ r [aO .u8 1 B4])]) b vh vk (aK 1 z4.v 0 64 none) C4 A1 K0 (oe (cC N M) q) (fun i=>cC N M (64*q+i)) hH (kA _ q) qP (fun j=>hS _) (lE (by omega) hB),?_⟩;rintro x hs ⟨C,rfl,rfl,hC⟩;refine⟨C,rfl,rfl,by omega,fun _=>⟨by omega,fun _=>?_⟩⟩;intro u;refine⟨u,_,_,_,rfl,fun _ _=>rfl,rfl,rfl,fun _ _=>rfl,⟨q+1,r - 64,by omega,congrArg (fun z:Int=>[z]) (by omega),fun j hj=>?_,fun j hj=>?_⟩,?_⟩
  ·simp only [ah];unfold aA;rw [hB _ (by omega)];congr 2;omega
  ·simp only [ah,aeW];exact hC j hj
  ·simp only [ah];omega
 refine⟨by omega,fun _=>⟨by omega,fun _=>?_⟩⟩;intro u5;refine⟨fun e=> ∃q r:Nat,64*q+r=n0+n1+n2+n3+n4+n5∧e.i=[(r:Int)]∧(∀j,j<r→(e.a.getD 0 fun _=>0) j=(cC N M (64*q+j):Nat))∧∀j,j<8→(e.a.getD 1 fun _=>0) j=(oe (cC N M) q j:Nat),fun e=>(e.i.getD 0 0:Int).toNat,?_,?_⟩
 ·refine⟨u5,_,_,_,rfl,fun _ _=>rfl,rfl,rfl,fun _ _=>rfl,q,r+n5,by omega,by rw [afy],fun j hj=>?_,fun j hj=>?_⟩
  ·simp only [ah];have tr:ag (r:Int)=r:=rfl;have tn:ag (n5:Int)=n5:=rfl;rw [tr,tn];unfold aI;by_cases c:j<r
   ·rw [if_neg (by omega)];exact hB j c
   ·rw [if_pos (by omega)];show((T5 (j - r):Nat):Int)=_;rw [N3 _ (by omega),CN _ (by omega)];congr 2;omega
  ·simp only [ah,aeW];exact hH j hj
 clear hB hH BF bU;rintro z5 x B5 C5 ⟨q,r,BF,hx,hB,hH⟩;simp only [ae8,and_true]at hx;subst hx;simp only [ah,aeW]at hB hH;refine⟨by omega,fun _=>⟨fun iH=>?_,fun bU=>?_⟩⟩
 ·refine⟨_,dF (B:=[aE true 5 1 z5.v r (aQ r [aO .u8 1 B5])]) b vh vk (aK 1 z5.v 0 64 none) C5 A1 K0 (oe (cC N M) q) (fun i=>cC N M (64*q+i)) hH (kA _ q) qP (fun j=>hS _) (lE (by omega) hB),?_⟩;rintro x hs ⟨C,rfl,rfl,hC⟩;refine⟨C,rfl,rfl,by omega,fun _=>⟨by omega,fun _=>?_⟩⟩;intro u;refine⟨u,_,_,_,rfl,fun _ _=>rfl,rfl,rfl,fun _ _=>rfl,⟨q+1,r - 64,by omega,congrArg (fun z:Int=>[z]) (by omega),fun j hj=>?_,fun j hj=>?_⟩,?_⟩
  ·simp only [ah];unfold aA;rw [hB _ (by omega)];congr 2;omega
  ·simp only [ah,aeW];exact hC j hj
  ·simp only [ah];omega
 refine⟨by omega,fun _=>⟨by omega,fun _=>?_⟩⟩;intro u6;refine⟨fun e=> ∃q r:Nat,64*q+r=n0+n1+n2+n3+n4+n5+n6∧e.i=[(r:Int)]∧(∀j,j<r→(e.a.getD 0 fun _=>0) j=(cC N M (64*q+j):Nat))∧∀j,j<8→(e.a.getD 1 fun _=>0) j=(oe (cC N M) q j:Nat),fun e=>(e.i.getD 0 0:Int).toNat,?_,?_⟩
 ·refine⟨u6,_,_,_,rfl,fun _ _=>rfl,rfl,rfl,fun _ _=>rfl,q,r+n6,by omega,by rw [afy],fun j hj=>?_,fun j hj=>?_⟩
  ·simp only [ah];have tr:ag (r:Int)=r:=rfl;have tn:ag (n6:Int)=n6:=rfl;rw [tr,tn];unfold aI;by_cases c:j<r
   ·rw [if_neg (by omega)];exact hB j c
   ·rw [if_pos (by omega)];show((T6 (j - r):Nat):Int)=_;rw [Uk _ (by omega),CN _ (by omega)];congr 2;omega
  ·simp only [ah,aeW];exact hH j hj
 clear hB hH BF bU;rintro z6 x B6 C6 ⟨q,r,BF,hx,hB,hH⟩;simp only [ae8,and_true]at hx;subst hx;simp only [ah,aeW]at hB hH;refine⟨by omega,fun _=>⟨fun iH=>?_,fun bU=>?_⟩⟩
 ·refine⟨_,dF (B:=[aE true 5 1 z6.v r (aQ r [aO .u8 1 B6])]) b vh vk (aK 1 z6.v 0 64 none) C6 A1 K0 (oe (cC N M) q) (fun i=>cC N M (64*q+i)) hH (kA _ q) qP (fun j=>hS _) (lE (by omega) hB),?_⟩;rintro x hs ⟨C,rfl,rfl,hC⟩;refine⟨C,rfl,rfl,by omega,fun _=>⟨by omega,fun _=>?_⟩⟩;intro u;refine⟨u,_,_,_,rfl,fun _ _=>rfl,rfl,rfl,fun _ _=>rfl,⟨q+1,r - 64,by omega,congrArg (fun z:Int=>[z]) (by omega),fun j hj=>?_,fun j hj=>?_⟩,?_⟩
  ·simp only [ah];unfold aA;rw [hB _ (by omega)];congr 2;omega
  ·simp only [ah,aeW];exact hC j hj
  ·simp only [ah];omega
 intro b2;refine⟨by omega,fun _=>?_⟩;intro u8;have hqN:N=64*q+r:=by omega
 have ZQ:r<64:=by omega
 have tr:ag (r:Int)=r:=rfl;rw [tr];refine⟨fun e=> ∃k:Nat,r+1≤k∧k+8+64*q≤gF N∧e.i=[(k:Int)]∧∀j,j<k→(e.a.getD 0 fun _=>0) j=(cC N M (64*q+j):Nat),fun e=>((200:Int) - e.i.getD 0 0).toNat,⟨u8,_,_,rfl,rfl,rfl,fun _ _=>rfl,r+1,by omega,by omega,by rw [afy];rfl,fun j hj=>?_⟩,?_⟩
 ·simp only [ah];unfold aI;by_cases c:j<r
  ·rw [if_neg (by omega)];exact hB j c
  ·have:j=r:=by omega
   subst this;rw [if_pos (by omega),Nat.sub_self];unfold cC;rw [if_neg (by omega),if_pos (by omega)];rfl
 rintro z8 x D ⟨k,IC,Bb,hx,hD⟩;simp only [ae8,and_true]at hx;subst hx;simp only [ah]at hD;have yg:ak .rem .i64 ((k:Int)+8) 64=(((k+8)%64:Nat):Int):=by rw [show(k:Int)+8=((k+8:Nat):Int) by omega];rfl
 rw [yg];have tk:ag (k:Int)=k:=rfl;rw [tk]
 iterate 3 refine⟨by omega,fun _=>?_⟩
 refine⟨fun eZ=>?_,fun heq=>?_⟩
 ·intro b3;refine⟨by omega,fun _=>?_⟩;intro u;refine⟨u,_,_,rfl,rfl,rfl,fun _ _=>rfl,⟨k+1,by omega,by omega,by rw [afy];rfl,fun j hj=>?_⟩,?_⟩
  ·simp only [ah];unfold aq;split
   ·rename_i c;unfold cC;rw [if_neg (by omega),if_neg (by omega),if_pos (by omega)];rfl
   ·exact hD j (by omega)
  ·simp only [ah];omega
 have hk:k+8+64*q=gF N:=by omega
 intro u9;refine⟨by omega,fun _=>?_⟩;intro ZR;have hw:ae .u64 ((ae .u64 ((ae .u64 ((ae .u64 ((ae .u64 ((ae .u64 ((ae .u64 (ae .u64 (n0:Int)))+(ae .u64 (n1:Int))))+(ae .u64 (n2:Int))))+(ae .u64 (n3:Int))))+(ae .u64 (n4:Int))))+(ae .u64 (n5:Int))))+(ae .u64 (n6:Int)))=(N:Int):=by
  rw [hN];simp only [oD (show n0<2^64 by omega)];rw [oD (show n1<2^64 by omega),←afy,oD (show n0+n1<2^64 by omega)];rw [oD (show n2<2^64 by omega),←afy,oD (show n0+n1+n2<2^64 by omega)];rw [oD (show n3<2^64 by omega),←afy,oD (show n0+n1+n2+n3<2^64 by omega)];rw [oD (show n4<2^64 by omega),←afy,oD (show n0+n1+n2+n3+n4<2^64 by omega)];rw [oD (show n5<2^64 by omega),←afy,oD (show n0+n1+n2+n3+n4+n5<2^64 by omega)];rw [oD (show n6<2^64 by omega),←afy,oD (show n0+n1+n2+n3+n4+n5+n6<2^64 by omega)]
 rw [hw];refine⟨fun e=> ∃p:Nat,64*p≤gF N∧e.i=[((gF N - 64*p:Nat):Int)]∧(∀j,j<gF N - 64*p→(e.a.getD 0 fun _=>0) j=(cC N M (64*p+j):Nat))∧∀j,j<8→(e.a.getD 1 fun _=>0) j=(oe (cC N M) p j:Nat),fun e=>(e.i.getD 0 0:Int).toNat,⟨ZR,_,_,_,rfl,fun _ _=>rfl,rfl,rfl,fun _ _=>rfl,q,by omega,congrArg (fun z:Int=>[z]) (by omega),fun j hj=>?_,fun j hj=>?_⟩,?_⟩
 ·simp only [ah];unfold aI;by_cases c:j<k
  ·rw [if_neg (by omega)];exact hD j c
  ·rw [if_pos (by omega),NB (by omega) _ (by omega)];unfold cC;rw [if_neg (by omega),if_neg (by omega),if_neg (by omega)];congr 2;omega
 ·simp only [ah,aeW];exact hH j hj
 rintro WZ x E F ⟨p,hp,hx,hE,hF⟩;simp only [ae8,and_true]at hx;subst hx;simp only [ah,aeW]at hE hF;have tp:ag ((gF N - 64*p:Nat):Int)=gF N - 64*p:=rfl;dsimp only [bo,bi,bn];rw [tp];refine⟨by omega,fun _=>⟨fun qx=>?_,fun vL=>?_⟩⟩
 ·refine⟨by omega,fun _=>?_⟩;refine⟨_,dF (B:=[aE true 5 1 WZ.v (gF N - 64*p) (aQ (gF N - 64*p) [aO .u8 1 E])]) b vh vk (aK 1 WZ.v 0 64 none) F A1 K0 (oe (cC N M) p) (fun i=>cC N M (64*p+i)) hF (kA _ p) qP (fun j=>hS _) (lE (by omega) hE),?_⟩;rintro x hs ⟨C,rfl,rfl,hC⟩;refine⟨C,rfl,rfl,by omega,fun _=>⟨by omega,fun _=>?_⟩⟩;intro u;refine⟨u,_,_,_,rfl,fun _ _=>rfl,rfl,rfl,fun _ _=>rfl,⟨p+1,by omega,congrArg (fun z:Int=>[z]) (by omega),fun j hj=>?_,fun j hj=>?_⟩,?_⟩
  ·simp only [ah];unfold aA;rw [hE _ (by omega)];congr 2;omega
  ·simp only [ah,aeW];exact hC j hj
  ·simp only [ah];omega
 ·have Rk:p=(N+8)/64+1:=by omega
  intros
  refine⟨_,rfl,rfl,rfl,rfl,rfl,rfl,rfl,rfl,rfl,congrArg some ?_⟩;unfold aj eV;rw [aW (n:=32) (g:=fun j=>((Sh.bytesOf (oe (cC N M) ((N+8)/64+1)) j:Nat):Int))];intro j hj;rw [←Rk];exact Sc hF j hj
open Go Go.RX Go.Proofs Go.RX.Sh Go.RX.Fg Go.RX.Fj Go.RX.Fk
theorem zD(k:IntKind)(n:Nat)(c:Int)(A:Nat→Int):al k (n+1) (fun j=>if j=0 then c else A (j - 1))= .int k c::al k n A:=by
 unfold al;rw [List.range_succ_eq_map,afj,List.map_map];congr 1
theorem vz: ∀(n t:Nat) (acc:Array Value),∃A:Nat→Int,(afw n t acc).toList=acc.toList++al .u8 n A
 | 0,_,acc=>⟨fun _=>0,by simp [afw,al]⟩
 | n+1,t,acc=>by
  obtain⟨A,hA⟩:=vz n (t/256) (acc.push (.int .u8 (Int.ofNat (t%256))));refine⟨fun j=>if j=0 then Int.ofNat (t%256)else A (j - 1),?_⟩;rw [afw,hA,zD];simp
theorem Ul{P:Program}(w:World)(ps:Array TypeId)(t e:TypeId)(ht:P.underlying t=some (.slice e))(n:Nat)(hn:n≤140737488355328):
  ∃(m:Nat) (A:Nat→Int),(Extern.BytealgMakeNoZero.makeNoZero ps #[t] #[.int .i64 n]).run P w= .ok (.slice (some ⟨w.heap.size,0,none⟩) n m) (w.drew.drew.alloc (.cells (al .u8 m A).toArray e))∧n≤m∧m≤maxLen:=by
 have Qc:Extern.BytealgMakeNoZero.makeNoZero ps #[t] #[.int .i64 n]=
   (do
    let .slice elem←underlying t | stuck "bytealg.MakeNoZero: slice type expected"
    if(n:Int)<0||(n:Int)>2^48 then runtimePanic (.error "makeslice: len out of range")
    let cap←choose (.appendCap (n:Int).toNat 0 elem)
    askRoom cap
    let bytes←choose (.extern "internal/bytealg.MakeNoZero.bytes" 0)
    let a←newRow elem (afw cap bytes #[])
    pure (.slice (some a) (n:Int).toNat cap)):=rfl
 obtain⟨A,hA⟩:=vz (grownCap w n 0 e) ((Question.extern "internal/bytealg.MakeNoZero.bytes" 0).cut (w.tape (w.drawn+1) (.extern "internal/bytealg.MakeNoZero.bytes" 0))) #[]
 have hA':afw (grownCap w n 0 e) ((Question.extern "internal/bytealg.MakeNoZero.bytes" 0).cut (w.tape (w.drawn+1) (.extern "internal/bytealg.MakeNoZero.bytes" 0))) #[]=(al .u8 (grownCap w n 0 e) A).toArray:=by
  apply Array.ext';rw [hA];simp
 refine⟨grownCap w n 0 e,A,?_,grownCap_ge w n 0 e,grownCap_le_maxLen w n 0 e (by unfold maxLen;omega)⟩;rw [Qc];have h1: ¬(n:Int)<0:=by omega
 have h2: ¬(281474976710656:Int)<(n:Int):=by omega
 simp only [grownCap]at hA';simp [run_underlying ht,h1,h2,Question.forced,newRow,grownCap,hA']
theorem N4(n:Nat)(hn:n≤140737488355328):FO ae0 143 [.int .i64 (n:Int)] [] fun r hs=> ∃(v:V1) (A:Nat→Int),r=v.v∧hs=[aE true 5 1 v.v n (aQ n [aO .u8 1 A])]:=by
 intro w Fs ho;have hu:Tryz.prog.underlying 24=some (.slice 5):=by kernel_rfl
 obtain⟨m,A,hr,RT,hm⟩:=Ul (P:=ae0) w #[3] 24 5 hu n hn;refine⟨.slice (some ⟨w.heap.size,0,none⟩) n m,[aE true 5 1 (.slice (some ⟨w.heap.size,0,none⟩) n m) n (aQ n [aO .u8 1 A])],w.drew.drew.alloc (.cells (al .u8 m A).toArray 5),?_,⟨⟨_,rfl⟩,A,rfl,rfl⟩,?_,⟨rfl,rfl,rfl,by simp⟩⟩
 ·rw [run_callFunc_extern Tryz.func143 (by kernel_rfl) (by kernel_rfl) (by kernel_rfl) (e:=Extern.BytealgMakeNoZero.makeNoZero #[3] #[24]) (by kernel_rfl)];rw [show([Value.int .i64 (n:Int)].toArray)= #[.int .i64 (n:Int)]from rfl,hr];rfl
 ·have ZS:(w.drew.drew.alloc (.cells (al .u8 m A).toArray 5)).heap[w.heap.size]? =some (.cells (al .u8 m A).toArray 5 (0,0)):=heap_alloc_new w.drew.drew _;refine bK.add (a:=[]) ho _ (fun k=>k=w.heap.size∧True) (by simp) (fun k hk=>heap_alloc_old w.drew.drew _ hk) ?_ ?_
  ·refine⟨?_,fun k=>?_⟩
   ·simp only [if_true];rw [je];refine⟨by rw [aG,Nat.mul_one],.inr ⟨w.heap.size,0,m,_,rfl,⟨5,ZS⟩,RT,hm,fun _=>by simp [aG],?_⟩⟩;rw [List.drop_zero,List.toList_toArray,Nat.mul_one,dX .u8 m n A RT]
   ·simp [Value.ownBlock,eq_comm]
  ·rintro k ⟨rfl,_⟩;exact⟨Nat.le_refl _,by simp⟩
theorem bX.part{v:V1}{t n m:Nat}{mx:Option Nat}{cs:List Value}(h:m≤n)(RR: ∀x,mx=some x→m≤x∧x≤n)(hm:0<m):bX [aE true t 1 v.v n cs] [aE true t 1 (aD 1 v.v 0 m mx) m (cs.take m)]:=by
 rintro w Fs ⟨S,hS⟩;have h0:=(hS.at_ 0 _ rfl).1;obtain⟨h1,h2⟩:=h0;simp only [if_true]at h1;obtain⟨hlen,hc⟩:=h1;rcases hc with⟨_,US⟩ | ⟨g,o,cap,cur,hv,hg,CI,OP,pq,CJ⟩
 ·omega
 have dI:aD 1 v.v 0 m mx= .slice (some ⟨g,o,none⟩) m (mx.getD cap):=by
  rw [hv];unfold aD;have eZ: ¬mx.getD cap=0:=by
   cases mx with
   | none=>simp;omega
   | some x=>have:=RR x rfl;simp;omega
  simp only [Nat.zero_mul,if_neg eZ,Option.map_some,Nat.sub_zero];rfl
 have ZT:m≤mx.getD cap∧mx.getD cap≤cap:=by
  cases mx with
  | none=>simp;omega
  | some x=>have:=RR x rfl;simp;omega
 refine bK.weaken (a:=[aE true t 1 v.v n cs]) hS 0 _ _ rfl (fun _=>rfl) (fun k=>k=g) (fun k hk=>?_) ⟨?_,fun k=>?_⟩
 ·exact(h2 k).2 ⟨by rw [hv,hk];rfl,.inl rfl⟩
 ·simp only [if_true];rw [dI];refine⟨by rw [List.length_take];omega,.inr ⟨g,o,mx.getD cap,cur,rfl,hg,ZT.1,by omega,fun _=>by have:=pq (by omega);omega,?_⟩⟩;rw [←CJ,List.take_take,Nat.mul_one,Nat.mul_one,Nat.min_eq_left h]
 ·rw [dI];simp [Value.ownBlock,eq_comm]
theorem nr{A:Nat→Int}{x:Int}(n:Nat)(h: ∀j,j<n→A j=x)(j:Nat)(hj:j<n+n):aI A n n A j=x:=by
 unfold aI;split
 ·exact h _ (by omega)
 ·exact h j (by omega)
theorem EY(v0:V1)(A0:Nat→Int):aw ae0 118 [v0.v,.int .i64 64] [aE false 5 1 v0.v 1 (aQ 1 [aO .u8 1 A0])] fun r hs=> ∃o:V1,r=o.v∧hs=[aE true 5 1 o.v 64 (aQ 64 [aO .u8 1 fun _=>A0 0])]:=by
 refine aw.post (p:=fun r hs=> ∃(v:V1) (F:Nat→Int),r=aD 1 v.v 0 64 (some 64)∧hs=[aE true 5 1 v.v 64 (aQ 64 [aO .u8 1 F])]∧∀j,j<64→F j=A0 0) ?_ ?_;rotate_left
 ·rintro r hs ⟨v,F,rfl,rfl,hF⟩;refine⟨_,bX.part (m:=64) (mx:=some 64) (Nat.le_refl _) (fun x hx=>by cases hx;omega) (by decide),⟨_,aK 1 v.v 0 64 (some 64)⟩,rfl,?_⟩;rw [aW hF,je,dX .u8 64 64 _ (Nat.le_refl _)]
 refine Jo _ A0 v0 ?_;unfold z_;refine⟨_,N4 64 (by decide),?_⟩;rintro x hs ⟨v1,A1,rfl,rfl⟩;refine⟨v1,64,A1,rfl,rfl,by omega,fun _=>⟨v1,_,rfl,rfl,?_⟩⟩;refine nr 32 (nr 16 (nr 8 (nr 4 (nr 2 (nr 1 fun j hj=>?_)))));have:j=0:=by omega
 subst this;rfl
theorem Ce{B:List HP}{x:Value}(hx:x.oneCell'=true)(w:Nat)(h:au B (aB x 1 fun _=>w)):aw ae0 118 [x,.int .i64 64] B fun r hs=> ∃o:V1,r=o.v∧hs=B++[aj true o 64 fun _=>w]:=
 bJ (EY ⟨x,hx⟩ fun _=>(w:Int)) (pK h)
theorem um(v0:V1)(K:Nat→Nat)(hK: ∀j,K j<256)(w:Nat)(hw:w<256):aw ae0 97 [.int .u8 1,v0.v,.int .u8 (w:Int)] [aj false v0 32 K] fun r hs=> ∃o:V1,r=o.v∧hs=[aj true o 64 (fk 32 K w)]:=by
 refine FP _ (w:Int) (fun j=>(K j:Nat)) v0 ?_;unfold wU;intro b0;have hb:au [ax b0 true [.int .u8 (w:Int)]] (aB (.slice (some ⟨b0,0,none⟩) 1 1) 1 fun _=>w):=
  au.block (b:=b0) (n:=1) (m:=1) (wr:=true) (A:=fun _=>(w:Int)) (T:=fun _=>w) (fun _ _=>rfl) (Nat.le_refl _)
 refine⟨_,Ce rfl w hb,?_⟩;rintro x hs ⟨v1,rfl,rfl⟩;refine⟨v1,64,fun _=>(w:Int),rfl,rfl,?_⟩;refine⟨fun e=> ∃i:Nat,i≤32∧e.i=[(i:Int)]∧∀j,j<64→(e.a.getD 0 fun _=>0) j=(fk i K w j:Nat),fun e=>((32:Int) - e.i.getD 0 0).toNat,⟨0,_,rfl,fun _ _=>rfl,0,by omega,rfl,fun j hj=>?_⟩,?_⟩
 ·simp only [ah];unfold fk;rw [if_neg (by omega),Nat.zero_xor]
 rintro x2 A2 ⟨i,hi,hx,hA⟩;simp only [ae8,and_true]at hx;subst hx;simp only [ah]at hA;refine⟨fun bU=>?_,fun iH=>?_⟩
 ·iterate 4 refine⟨by omega,fun _=>?_⟩
  refine⟨_,_,rfl,fun _ _=>rfl,⟨i+1,by omega,rfl,fun j hj=>?_⟩,?_⟩
  ·have hj:j<64:=hj;simp only [ah];rw [afe];unfold aq;split
   ·rename_i e;subst e;rw [hA j hj,Fe.bP (sY hK hw _ _) (hK _)];unfold fk;rw [if_neg (by omega),if_pos (by omega),Nat.zero_xor,ae7]
   ·rename_i e;rw [hA j hj];unfold fk;by_cases c:j<i
    ·rw [if_pos c,if_pos (by omega)]
    ·rw [if_neg c,if_neg (by omega)]
  ·simp only [ah];omega
 ·have h32:i=32:=by omega
  subst h32;refine⟨v1,rfl,?_⟩;show [aE true 5 1 v1.v 64 (aQ 64 [aO .u8 1 A2])]=_;unfold aj;rw [aW hA]
theorem nq{B:List HP}{x:Value}(hx:x.oneCell'=true)(K:Nat→Nat)(hK: ∀j,K j<256)(w:Nat)(hw:w<256)(h:au B (aB x 32 K)):aw ae0 97 [.int .u8 1,x,.int .u8 (w:Int)] B fun r hs=> ∃o:V1,r=o.v∧hs=B++[aj true o 64 (fk 32 K w)]:=
 bJ (um ⟨x,hx⟩ K hK w hw) (pK h)
theorem j8{n:Nat}(s:Nat)(hs:s≤64):ae .u8 (ak .shr .i64 (n:Int) (s:Int))=((n/2^s%256:Nat):Int):=by
 rw [gg .i64 n s hs,wrap_u8,Nat.shiftRight_eq_div_pow]
theorem N5(n:Nat):aw ae0 65 [.int .i64 (n:Int)] [] fun r hs=> ∃o:V1,r=o.v∧hs=[aj true o 8 (cJ n)]:=by
 refine aw.post (p:=fun r hs=> ∃o:V1,r=o.v∧hs[1]? =some (aj true o 8 (cJ n))) ?_ ?_;rotate_left
 ·rintro r hs ⟨o,rfl,h⟩;exact⟨_,bX.lY 1 h,o,rfl,rfl⟩
 refine U4 _ (n:Int) ?_;unfold RC
 intros
 rename_i v7;refine⟨v7,rfl,congrArg some ?_⟩;unfold aj;refine congrArg (aE true 5 1 v7.v 8) (aW fun j hj=>?_);unfold cJ
 match j,hj with
 | 0,_=>exact j8 56 (by decide)
 | 1,_=>exact j8 48 (by decide)
 | 2,_=>exact j8 40 (by decide)
 | 3,_=>exact j8 32 (by decide)
 | 4,_=>exact j8 24 (by decide)
 | 5,_=>exact j8 16 (by decide)
 | 6,_=>exact j8 8 (by decide)
 | 7,_=>exact j8 0 (by decide)
 | j+8,h=>exact absurd h (by omega)
theorem iU{B:List HP}(n:Nat):aw ae0 65 [.int .i64 (n:Int)] B fun r hs=> ∃o:V1,r=o.v∧hs=B++[aj true o 8 (cJ n)]:=
 bJ (N5 n) (by simp)
end Go.RX.Fm
