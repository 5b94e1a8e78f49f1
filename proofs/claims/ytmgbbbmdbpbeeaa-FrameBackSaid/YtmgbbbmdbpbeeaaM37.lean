/- Sums by lengths. -/
import Derived.Test.YtmgbbbmdbpbeeaaM36
open Go.IntKind renaming wrap → ae
open Go.Proofs.Try renaming prog → adE
open Int renaming natCast_add → adH, toNat → ag
open List renaming getD_cons_zero → ah
open List.cons renaming injEq → adF
namespace Go.RX.Fq
open Go Go.RX Go.Proofs Go.RX.Sh Go.RX.Fg Go.RX.Fj Go.RX.Fk Go.RX.Fm
set_option maxHeartbeats 4000000 in
theorem Bl(b:Nat)(b1:Nat)(vh vk w0 w1:V1)(n0 n1:Nat)(T0 T1 A0 A1:Nat→Int)(hl:n0+n1+600≤140737488355328):
  ar adE 61 [.pointer (some ⟨b,0,none⟩),.slice (some ⟨b1,0,none⟩) 2 2] [i_ b vh vk,bQ vh 8 A0,bQ vk 64 A1,aq b1 true [w0.v,w1.v],bn false w0 n0 T0,bn false w1 n1 T1] fun r hs=> ∃(o:V1) (N:Nat→Int),fD N∧r=o.v∧hs=[aq b1 true [w0.v,w1.v],bn false w0 n0 T0,bn false w1 n1 T1,bn true o 32 N]:=by
 refine ar.post (p:=fun r hs=> ∃(o:V1) (N:Nat→Int),fD N∧r=o.v∧hs[3]? =some (aq b1 true [w0.v,w1.v])∧hs[4]? =some (bn false w0 n0 T0)∧hs[5]? =some (bn false w1 n1 T1)∧hs[10]? =some (bn true o 32 N)) ?_ ?_;rotate_left
 ·rintro r hs ⟨o,N,hN,rfl,g0,g1,g2,g3⟩;refine⟨_,bU.idx [3,4,5,10] (by decide) ?_,o,N,hN,rfl,rfl⟩;intro m u hu
  match m,hu with
  | 0,hu=>cases hu;exact⟨3,rfl,g0⟩
  | 1,hu=>cases hu;exact⟨4,rfl,g1⟩
  | 2,hu=>cases hu;exact⟨5,rfl,g2⟩
  | 3,hu=>cases hu;exact⟨10,rfl,g3⟩
  | m+4,hu=>simp at hu
 refine Fm.z7 _ (n0:Int) (n1:Int) A0 A1 T0 T1 vh vk w0 w1 b b1 ?_;unfold Fm.tf
 iterate 2 refine⟨by omega,fun _=>?_⟩
 intro u0;refine⟨fun e=> ∃r:Nat,r≤n0∧e.i=[(r:Int)],fun e=>(e.i.getD 0 0:Int).toNat,?_,?_⟩
 ·exact⟨u0,_,_,_,rfl,fun _ _=>rfl,rfl,rfl,fun _ _=>rfl,n0,by omega,rfl⟩
 rintro z0 x B0 C0 ⟨r,hr,hx⟩;simp only [adF,and_true]at hx;subst hx;refine⟨by omega,fun _=>⟨fun ig=>?_,fun bP=>?_⟩⟩
 ·refine⟨_,dv (B:=[bn true z0 r B0]) b vh vk (aI 1 z0.v 0 64 none) C0 A1 _ (b_ 64 (by omega)),?_⟩;rintro x hs ⟨C,rfl,rfl⟩;refine⟨C,rfl,rfl,by omega,fun _=>⟨by omega,fun _=>?_⟩⟩;intro u;refine⟨u,_,_,_,rfl,fun _ _=>rfl,rfl,rfl,fun _ _=>rfl,⟨r - 64,by omega,congrArg (fun z:Int=>[z]) (by omega)⟩,?_⟩;simp only [ah];omega
 iterate 2 refine⟨by omega,fun _=>?_⟩
 intro u1;refine⟨fun e=> ∃r:Nat,r≤n0+n1∧e.i=[(r:Int)],fun e=>(e.i.getD 0 0:Int).toNat,?_,?_⟩
 ·exact⟨u1,_,_,_,rfl,fun _ _=>rfl,rfl,rfl,fun _ _=>rfl,r+n1,by omega,by rw [adH]⟩
 clear hr bP;rintro z1 x B1 C1 ⟨r,hr,hx⟩;simp only [adF,and_true]at hx;subst hx;refine⟨by omega,fun _=>⟨fun ig=>?_,fun bP=>?_⟩⟩
 ·refine⟨_,dv (B:=[bn true z1 r B1]) b vh vk (aI 1 z1.v 0 64 none) C1 A1 _ (b_ 64 (by omega)),?_⟩;rintro x hs ⟨C,rfl,rfl⟩;refine⟨C,rfl,rfl,by omega,fun _=>⟨by omega,fun _=>?_⟩⟩;intro u;refine⟨u,_,_,_,rfl,fun _ _=>rfl,rfl,rfl,fun _ _=>rfl,⟨r - 64,by omega,congrArg (fun z:Int=>[z]) (by omega)⟩,?_⟩;simp only [ah];omega
 intro b2;refine⟨by omega,fun _=>?_⟩;intro u8;refine⟨fun e=> ∃k:Nat,r+1≤k∧k≤120∧e.i=[(k:Int)],fun e=>((140:Int) - e.i.getD 0 0).toNat,⟨u8,_,_,rfl,rfl,rfl,fun _ _=>rfl,r+1,by omega,by omega,by rw [adH];rfl⟩,?_⟩;rintro z8 x D ⟨k,Is,yx,hx⟩;simp only [adF,and_true]at hx;subst hx;have px:ak .rem .i64 ((k:Int)+8) 64=(((k+8)%64:Nat):Int):=by rw [show(k:Int)+8=((k+8:Nat):Int) by omega];rfl
 rw [px]
 iterate 3 refine⟨by omega,fun _=>?_⟩
 refine⟨fun dR=>?_,fun heq=>?_⟩
 ·intro b3;refine⟨by omega,fun _=>?_⟩;intro u;refine⟨u,_,_,rfl,rfl,rfl,fun _ _=>rfl,⟨k+1,by omega,by omega,by rw [adH];rfl⟩,?_⟩;simp only [ah];omega
 intro u9;refine⟨by omega,fun _=>?_⟩;intro GY;refine⟨fun e=> ∃m:Nat,m%64=0∧m≤128∧e.i=[(m:Int)],fun e=>(e.i.getD 0 0:Int).toNat,⟨GY,_,_,_,rfl,fun _ _=>rfl,rfl,rfl,fun _ _=>rfl,k+8,by omega,by omega,congrArg (fun z:Int=>[z]) (by omega)⟩,?_⟩;rintro yy x E F ⟨m,hm,LZ,hx⟩;simp only [adF,and_true]at hx;subst hx;refine⟨by omega,fun _=>⟨fun mg=>?_,fun oF=>?_⟩⟩
 ·refine⟨by omega,fun _=>?_⟩;refine⟨_,dv (B:=[bn true yy m E]) b vh vk (aI 1 yy.v 0 64 none) F A1 _ (b_ 64 (by omega)),?_⟩;rintro x hs ⟨C,rfl,rfl⟩;refine⟨C,rfl,rfl,by omega,fun _=>⟨by omega,fun _=>?_⟩⟩;intro u;refine⟨u,_,_,_,rfl,fun _ _=>rfl,rfl,rfl,fun _ _=>rfl,⟨m - 64,by omega,by omega,congrArg (fun z:Int=>[z]) (by omega)⟩,?_⟩;simp only [ah];omega
 ·intros
  refine⟨_,_,?_,rfl,rfl,rfl,rfl,rfl⟩
  repeat (first | exact m_ | apply qg)
set_option maxHeartbeats 4000000 in
theorem Bn(b:Nat)(vl:V1)(vh vk w0 w1:V1)(n0 n1:Nat)(T0 T1 A0 A1:Nat→Int)(hl:n0+n1+600≤140737488355328):
  ar adE 61 [.pointer (some ⟨b,0,none⟩),vl.v] [i_ b vh vk,bQ vh 8 A0,bQ vk 64 A1,au true 23 1 vl.v 2 [w0.v,w1.v],bn false w0 n0 T0,bn false w1 n1 T1] fun r hs=> ∃(o:V1) (N:Nat→Int),fD N∧r=o.v∧hs=[au true 23 1 vl.v 2 [w0.v,w1.v],bn false w0 n0 T0,bn false w1 n1 T1,bn true o 32 N]:=by
 refine ar.post (p:=fun r hs=> ∃(o:V1) (N:Nat→Int),fD N∧r=o.v∧hs[3]? =some (au true 23 1 vl.v 2 [w0.v,w1.v])∧hs[4]? =some (bn false w0 n0 T0)∧hs[5]? =some (bn false w1 n1 T1)∧hs[10]? =some (bn true o 32 N)) ?_ ?_;rotate_left
 ·rintro r hs ⟨o,N,hN,rfl,g0,g1,g2,g3⟩;refine⟨_,bU.idx [3,4,5,10] (by decide) ?_,o,N,hN,rfl,rfl⟩;intro m u hu
  match m,hu with
  | 0,hu=>cases hu;exact⟨3,rfl,g0⟩
  | 1,hu=>cases hu;exact⟨4,rfl,g1⟩
  | 2,hu=>cases hu;exact⟨5,rfl,g2⟩
  | 3,hu=>cases hu;exact⟨10,rfl,g3⟩
  | m+4,hu=>simp at hu
 refine Ey _ (n0:Int) (n1:Int) A0 A1 T0 T1 vh vk vl w0 w1 b ?_;unfold vd
 iterate 2 refine⟨by omega,fun _=>?_⟩
 intro u0;refine⟨fun e=> ∃r:Nat,r≤n0∧e.i=[(r:Int)],fun e=>(e.i.getD 0 0:Int).toNat,?_,?_⟩
 ·exact⟨u0,_,_,_,rfl,fun _ _=>rfl,rfl,rfl,fun _ _=>rfl,n0,by omega,rfl⟩
 rintro z0 x B0 C0 ⟨r,hr,hx⟩;simp only [adF,and_true]at hx;subst hx;refine⟨by omega,fun _=>⟨fun ig=>?_,fun bP=>?_⟩⟩
 ·refine⟨_,dv (B:=[bn true z0 r B0]) b vh vk (aI 1 z0.v 0 64 none) C0 A1 _ (b_ 64 (by omega)),?_⟩;rintro x hs ⟨C,rfl,rfl⟩;refine⟨C,rfl,rfl,by omega,fun _=>⟨by omega,fun _=>?_⟩⟩;intro u;refine⟨u,_,_,_,rfl,fun _ _=>rfl,rfl,rfl,fun _ _=>rfl,⟨r - 64,by omega,congrArg (fun z:Int=>[z]) (by omega)⟩,?_⟩;simp only [ah];omega
 iterate 2 refine⟨by omega,fun _=>?_⟩
 intro u1;refine⟨fun e=> ∃r:Nat,r≤n0+n1∧e.i=[(r:Int)],fun e=>(e.i.getD 0 0:Int).toNat,?_,?_⟩
 ·exact⟨u1,_,_,_,rfl,fun _ _=>rfl,rfl,rfl,fun _ _=>rfl,r+n1,by omega,by rw [adH]⟩
 clear hr bP;rintro z1 x B1 C1 ⟨r,hr,hx⟩;simp only [adF,and_true]at hx;subst hx;refine⟨by omega,fun _=>⟨fun ig=>?_,fun bP=>?_⟩⟩
 ·refine⟨_,dv (B:=[bn true z1 r B1]) b vh vk (aI 1 z1.v 0 64 none) C1 A1 _ (b_ 64 (by omega)),?_⟩;rintro x hs ⟨C,rfl,rfl⟩;refine⟨C,rfl,rfl,by omega,fun _=>⟨by omega,fun _=>?_⟩⟩;intro u;refine⟨u,_,_,_,rfl,fun _ _=>rfl,rfl,rfl,fun _ _=>rfl,⟨r - 64,by omega,congrArg (fun z:Int=>[z]) (by omega)⟩,?_⟩;simp only [ah];omega
 intro b2;refine⟨by omega,fun _=>?_⟩;intro u8;refine⟨fun e=> ∃k:Nat,r+1≤k∧k≤120∧e.i=[(k:Int)],fun e=>((140:Int) - e.i.getD 0 0).toNat,⟨u8,_,_,rfl,rfl,rfl,fun _ _=>rfl,r+1,by omega,by omega,by rw [adH];rfl⟩,?_⟩;rintro z8 x D ⟨k,Is,yx,hx⟩;simp only [adF,and_true]at hx;subst hx;have px:ak .rem .i64 ((k:Int)+8) 64=(((k+8)%64:Nat):Int):=by rw [show(k:Int)+8=((k+8:Nat):Int) by omega];rfl
 rw [px]
 iterate 3 refine⟨by omega,fun _=>?_⟩
 refine⟨fun dR=>?_,fun heq=>?_⟩
 ·intro b3;refine⟨by omega,fun _=>?_⟩;intro u;refine⟨u,_,_,rfl,rfl,rfl,fun _ _=>rfl,⟨k+1,by omega,by omega,by rw [adH];rfl⟩,?_⟩;simp only [ah];omega
 intro u9;refine⟨by omega,fun _=>?_⟩;intro GY;refine⟨fun e=> ∃m:Nat,m%64=0∧m≤128∧e.i=[(m:Int)],fun e=>(e.i.getD 0 0:Int).toNat,⟨GY,_,_,_,rfl,fun _ _=>rfl,rfl,rfl,fun _ _=>rfl,k+8,by omega,by omega,congrArg (fun z:Int=>[z]) (by omega)⟩,?_⟩;rintro yy x E F ⟨m,hm,LZ,hx⟩;simp only [adF,and_true]at hx;subst hx;refine⟨by omega,fun _=>⟨fun mg=>?_,fun oF=>?_⟩⟩
 ·refine⟨by omega,fun _=>?_⟩;refine⟨_,dv (B:=[bn true yy m E]) b vh vk (aI 1 yy.v 0 64 none) F A1 _ (b_ 64 (by omega)),?_⟩;rintro x hs ⟨C,rfl,rfl⟩;refine⟨C,rfl,rfl,by omega,fun _=>⟨by omega,fun _=>?_⟩⟩;intro u;refine⟨u,_,_,_,rfl,fun _ _=>rfl,rfl,rfl,fun _ _=>rfl,⟨m - 64,by omega,by omega,congrArg (fun z:Int=>[z]) (by omega)⟩,?_⟩;simp only [ah];omega
 ·intros
  refine⟨_,_,?_,rfl,rfl,rfl,rfl,rfl⟩
  repeat (first | exact m_ | apply qg)
set_option maxHeartbeats 4000000 in
theorem Bp(b:Nat)(vl:V1)(vh vk w0 w1 w2 w3:V1)(n0 n1 n2 n3:Nat)(T0 T1 T2 T3 A0 A1:Nat→Int)(hl:n0+n1+n2+n3+600≤140737488355328):
  ar adE 61 [.pointer (some ⟨b,0,none⟩),vl.v] [i_ b vh vk,bQ vh 8 A0,bQ vk 64 A1,au true 23 1 vl.v 4 [w0.v,w1.v,w2.v,w3.v],bn false w0 n0 T0,bn false w1 n1 T1,bn false w2 n2 T2,bn false w3 n3 T3] fun r hs=> ∃(o:V1) (N:Nat→Int),fD N∧r=o.v∧hs=[au true 23 1 vl.v 4 [w0.v,w1.v,w2.v,w3.v],bn false w0 n0 T0,bn false w1 n1 T1,bn false w2 n2 T2,bn false w3 n3 T3,bn true o 32 N]:=by
 refine ar.post (p:=fun r hs=> ∃(o:V1) (N:Nat→Int),fD N∧r=o.v∧hs[3]? =some (au true 23 1 vl.v 4 [w0.v,w1.v,w2.v,w3.v])∧hs[4]? =some (bn false w0 n0 T0)∧hs[5]? =some (bn false w1 n1 T1)∧hs[6]? =some (bn false w2 n2 T2)∧hs[7]? =some (bn false w3 n3 T3)∧hs[12]? =some (bn true o 32 N)) ?_ ?_;rotate_left
 ·rintro r hs ⟨o,N,hN,rfl,g0,g1,g2,g3,g4,g5⟩;refine⟨_,bU.idx [3,4,5,6,7,12] (by decide) ?_,o,N,hN,rfl,rfl⟩;intro m u hu
  match m,hu with
  | 0,hu=>cases hu;exact⟨3,rfl,g0⟩
  | 1,hu=>cases hu;exact⟨4,rfl,g1⟩
  | 2,hu=>cases hu;exact⟨5,rfl,g2⟩
  | 3,hu=>cases hu;exact⟨6,rfl,g3⟩
  | 4,hu=>cases hu;exact⟨7,rfl,g4⟩
  | 5,hu=>cases hu;exact⟨12,rfl,g5⟩
  | m+6,hu=>simp at hu
 refine Ez _ (n0:Int) (n1:Int) (n2:Int) (n3:Int) A0 A1 T0 T1 T2 T3 vh vk vl w0 w1 w2 w3 b ?_;unfold ve
 iterate 2 refine⟨by omega,fun _=>?_⟩
 intro u0;refine⟨fun e=> ∃r:Nat,r≤n0∧e.i=[(r:Int)],fun e=>(e.i.getD 0 0:Int).toNat,?_,?_⟩
 ·exact⟨u0,_,_,_,rfl,fun _ _=>rfl,rfl,rfl,fun _ _=>rfl,n0,by omega,rfl⟩
 rintro z0 x B0 C0 ⟨r,hr,hx⟩;simp only [adF,and_true]at hx;subst hx;refine⟨by omega,fun _=>⟨fun ig=>?_,fun bP=>?_⟩⟩
 ·refine⟨_,dv (B:=[bn true z0 r B0]) b vh vk (aI 1 z0.v 0 64 none) C0 A1 _ (b_ 64 (by omega)),?_⟩;rintro x hs ⟨C,rfl,rfl⟩;refine⟨C,rfl,rfl,by omega,fun _=>⟨by omega,fun _=>?_⟩⟩;intro u;refine⟨u,_,_,_,rfl,fun _ _=>rfl,rfl,rfl,fun _ _=>rfl,⟨r - 64,by omega,congrArg (fun z:Int=>[z]) (by omega)⟩,?_⟩;simp only [ah];omega
 iterate 2 refine⟨by omega,fun _=>?_⟩
 intro u1;refine⟨fun e=> ∃r:Nat,r≤n0+n1∧e.i=[(r:Int)],fun e=>(e.i.getD 0 0:Int).toNat,?_,?_⟩
 ·exact⟨u1,_,_,_,rfl,fun _ _=>rfl,rfl,rfl,fun _ _=>rfl,r+n1,by omega,by rw [adH]⟩
 clear hr bP;rintro z1 x B1 C1 ⟨r,hr,hx⟩;simp only [adF,and_true]at hx;subst hx;refine⟨by omega,fun _=>⟨fun ig=>?_,fun bP=>?_⟩⟩
 ·refine⟨_,dv (B:=[bn true z1 r B1]) b vh vk (aI 1 z1.v 0 64 none) C1 A1 _ (b_ 64 (by omega)),?_⟩;rintro x hs ⟨C,rfl,rfl⟩;refine⟨C,rfl,rfl,by omega,fun _=>⟨by omega,fun _=>?_⟩⟩;intro u;refine⟨u,_,_,_,rfl,fun _ _=>rfl,rfl,rfl,fun _ _=>rfl,⟨r - 64,by omega,congrArg (fun z:Int=>[z]) (by omega)⟩,?_⟩;simp only [ah];omega
 iterate 2 refine⟨by omega,fun _=>?_⟩
 intro u2;refine⟨fun e=> ∃r:Nat,r≤n0+n1+n2∧e.i=[(r:Int)],fun e=>(e.i.getD 0 0:Int).toNat,?_,?_⟩
 ·exact⟨u2,_,_,_,rfl,fun _ _=>rfl,rfl,rfl,fun _ _=>rfl,r+n2,by omega,by rw [adH]⟩
 clear hr bP;rintro z2 x B2 C2 ⟨r,hr,hx⟩;simp only [adF,and_true]at hx;subst hx;refine⟨by omega,fun _=>⟨fun ig=>?_,fun bP=>?_⟩⟩
 ·refine⟨_,dv (B:=[bn true z2 r B2]) b vh vk (aI 1 z2.v 0 64 none) C2 A1 _ (b_ 64 (by omega)),?_⟩;rintro x hs ⟨C,rfl,rfl⟩;refine⟨C,rfl,rfl,by omega,fun _=>⟨by omega,fun _=>?_⟩⟩;intro u;refine⟨u,_,_,_,rfl,fun _ _=>rfl,rfl,rfl,fun _ _=>rfl,⟨r - 64,by omega,congrArg (fun z:Int=>[z]) (by omega)⟩,?_⟩;simp only [ah];omega
 iterate 2 refine⟨by omega,fun _=>?_⟩
 intro u3;refine⟨fun e=> ∃r:Nat,r≤n0+n1+n2+n3∧e.i=[(r:Int)],fun e=>(e.i.getD 0 0:Int).toNat,?_,?_⟩
 ·exact⟨u3,_,_,_,rfl,fun _ _=>rfl,rfl,rfl,fun _ _=>rfl,r+n3,by omega,by rw [adH]⟩
 clear hr bP;rintro z3 x B3 C3 ⟨r,hr,hx⟩;simp only [adF,and_true]at hx;subst hx;refine⟨by omega,fun _=>⟨fun ig=>?_,fun bP=>?_⟩⟩
 ·refine⟨_,dv (B:=[bn true z3 r B3]) b vh vk (aI 1 z3.v 0 64 none) C3 A1 _ (b_ 64 (by omega)),?_⟩;rintro x hs ⟨C,rfl,rfl⟩;refine⟨C,rfl,rfl,by omega,fun _=>⟨by omega,fun _=>?_⟩⟩;intro u;refine⟨u,_,_,_,rfl,fun _ _=>rfl,rfl,rfl,fun _ _=>rfl,⟨r - 64,by omega,congrArg (fun z:Int=>[z]) (by omega)⟩,?_⟩;simp only [ah];omega
 intro b2;refine⟨by omega,fun _=>?_⟩;intro u8;refine⟨fun e=> ∃k:Nat,r+1≤k∧k≤120∧e.i=[(k:Int)],fun e=>((140:Int) - e.i.getD 0 0).toNat,⟨u8,_,_,rfl,rfl,rfl,fun _ _=>rfl,r+1,by omega,by omega,by rw [adH];rfl⟩,?_⟩;rintro z8 x D ⟨k,Is,yx,hx⟩;simp only [adF,and_true]at hx;subst hx;have px:ak .rem .i64 ((k:Int)+8) 64=(((k+8)%64:Nat):Int):=by rw [show(k:Int)+8=((k+8:Nat):Int) by omega];rfl
 rw [px]
 iterate 3 refine⟨by omega,fun _=>?_⟩
 refine⟨fun dR=>?_,fun heq=>?_⟩
 ·intro b3;refine⟨by omega,fun _=>?_⟩;intro u;refine⟨u,_,_,rfl,rfl,rfl,fun _ _=>rfl,⟨k+1,by omega,by omega,by rw [adH];rfl⟩,?_⟩;simp only [ah];omega
 intro u9;refine⟨by omega,fun _=>?_⟩;intro GY;refine⟨fun e=> ∃m:Nat,m%64=0∧m≤128∧e.i=[(m:Int)],fun e=>(e.i.getD 0 0:Int).toNat,⟨GY,_,_,_,rfl,fun _ _=>rfl,rfl,rfl,fun _ _=>rfl,k+8,by omega,by omega,congrArg (fun z:Int=>[z]) (by omega)⟩,?_⟩;rintro yy x E F ⟨m,hm,LZ,hx⟩;simp only [adF,and_true]at hx;subst hx;refine⟨by omega,fun _=>⟨fun mg=>?_,fun oF=>?_⟩⟩
 ·refine⟨by omega,fun _=>?_⟩;refine⟨_,dv (B:=[bn true yy m E]) b vh vk (aI 1 yy.v 0 64 none) F A1 _ (b_ 64 (by omega)),?_⟩;rintro x hs ⟨C,rfl,rfl⟩;refine⟨C,rfl,rfl,by omega,fun _=>⟨by omega,fun _=>?_⟩⟩;intro u;refine⟨u,_,_,_,rfl,fun _ _=>rfl,rfl,rfl,fun _ _=>rfl,⟨m - 64,by omega,by omega,congrArg (fun z:Int=>[z]) (by omega)⟩,?_⟩;simp only [ah];omega
 ·intros
  refine⟨_,_,?_,rfl,rfl,rfl,rfl,rfl,rfl,rfl⟩
  repeat (first | exact m_ | apply qg)
open Go.RX Go.Proofs Go.RX.Fe Go.RX.Fg Go.RX.Fi Go.RX.Fj Go.RX.Fk Go.RX.Fl
set_option maxRecDepth 100000
def vi(ax:PT)(x0 x1:Int)(A0 A1 A2 A3:Nat→Int)(v0 v1 v2 v3:V1)(b0 b1:Nat):Prop:=
 aw (0≤x0) (
 fx x0 (
 ∀v4:V1,∃(bN:Ext→Prop) (bY:Ext→Nat),(∃(v5:V1) (x2:Int) (A4 A5:Nat→Int),v5=v4∧(∀j,j<8→A5 j=A0 j)∧v5=v4∧x2=x0∧(∀j,j<(ag x2)→A4 j=A2 j)∧bN ⟨[],[v5],[x2],[A4,A5],[],[],[]⟩)∧
 ∀(v5:V1) (x2:Int) (A4 A5:Nat→Int),bN ⟨[],[v5],[x2],[A4,A5],[],[],[]⟩→
 aw (0≤x2) (
 aZ (128≤x2) (
 Cl 74 [.pointer (some ⟨b0,0,none⟩),(aC 1 v5.v 0 128 none)] [aq b0 true ([v0.v,v1.v,.int .i64 8,.int .i64 28,.int .i64 34,.int .i64 39,.int .i64 14,.int .i64 18,.int .i64 41,.int .i64 1,.int .i64 8,.int .i64 7,.int .i64 19,.int .i64 61,.int .i64 6]),au true 24 1 v0.v 8 (aK 8 [aJ .u64 1 A5]),au true 24 1 v1.v 80 (aK 80 [aJ .u64 1 A1]),bo v5 x2 A4] fun x hs _=> ∃A6:(Nat→Int),x= .tuple #[]∧hs=[aq b0 true ([v0.v,v1.v,.int .i64 8,.int .i64 28,.int .i64 34,.int .i64 39,.int .i64 14,.int .i64 18,.int .i64 41,.int .i64 1,.int .i64 8,.int .i64 7,.int .i64 19,.int .i64 61,.int .i64 6]),au true 24 1 v0.v 8 (aK 8 [aJ .u64 1 A6]),au true 24 1 v1.v 80 (aK 80 [aJ .u64 1 A1]),bo v5 x2 A4]∧
 aw (128≤x2) (
 aw (0≤(x2 - 128)) (
 ∀v6:V1,∃(Bg:V1) (gQ:Int) (tb tc:Nat→Int),Bg=v6∧(∀j,j<8→tc j=A6 j)∧Bg=v6∧gQ=(x2 - 128)∧(∀j,j<(ag gQ)→tb j=(aE A4 128) j)∧bN ⟨[],[Bg],[gQ],[tb,tc],[],[],[]⟩∧bY ⟨[],[Bg],[gQ],[tb,tc],[],[],[]⟩<bY ⟨[],[v5],[x2],[A4,A5],[],[],[]⟩))) (
 aw (0≤x1) (
 fx (x2+x1) (
 ∀v6:V1,∃(ez:Ext→Prop) (gT:Ext→Nat),(∃(v7:V1) (x3:Int) (A6 A7:Nat→Int),v7=v6∧(∀j,j<8→A7 j=A5 j)∧v7=v6∧x3=(x2+x1)∧(∀j,j<(ag x3)→A6 j=(aA A4 (ag x2) (ag x1) A3) j)∧ez ⟨[],[v7],[x3],[A6,A7],[],[],[]⟩)∧
 ∀(v7:V1) (x3:Int) (A6 A7:Nat→Int),ez ⟨[],[v7],[x3],[A6,A7],[],[],[]⟩→
 aw (0≤x3) (
 aZ (128≤x3) (
 Cl 74 [.pointer (some ⟨b0,0,none⟩),(aC 1 v7.v 0 128 none)] [aq b0 true ([v0.v,v1.v,.int .i64 8,.int .i64 28,.int .i64 34,.int .i64 39,.int .i64 14,.int .i64 18,.int .i64 41,.int .i64 1,.int .i64 8,.int .i64 7,.int .i64 19,.int .i64 61,.int .i64 6]),au true 24 1 v0.v 8 (aK 8 [aJ .u64 1 A7]),au true 24 1 v1.v 80 (aK 80 [aJ .u64 1 A1]),bo v7 x3 A6] fun x hs _=> ∃A8:(Nat→Int),x= .tuple #[]∧hs=[aq b0 true ([v0.v,v1.v,.int .i64 8,.int .i64 28,.int .i64 34,.int .i64 39,.int .i64 14,.int .i64 18,.int .i64 41,.int .i64 1,.int .i64 8,.int .i64 7,.int .i64 19,.int .i64 61,.int .i64 6]),au true 24 1 v0.v 8 (aK 8 [aJ .u64 1 A8]),au true 24 1 v1.v 80 (aK 80 [aJ .u64 1 A1]),bo v7 x3 A6]∧
 aw (128≤x3) (
 aw (0≤(x3 - 128)) (
 ∀v8:V1,∃(Ol:V1) (fO:Int) (qT tg:Nat→Int),Ol=v8∧(∀j,j<8→tg j=A8 j)∧Ol=v8∧fO=(x3 - 128)∧(∀j,j<(ag fO)→qT j=(aE A6 128) j)∧ez ⟨[],[Ol],[fO],[qT,tg],[],[],[]⟩∧gT ⟨[],[Ol],[fO],[qT,tg],[],[],[]⟩<gT ⟨[],[v7],[x3],[A6,A7],[],[],[]⟩))) (
 ∀b2:Nat,fx (x3+1) (
 ∀v8:V1,∃(eV:Ext→Prop) (iH:Ext→Nat),(∃(v9:V1) (x4:Int) (A8:Nat→Int),v9=v8∧v9=v8∧x4=(x3+1)∧(∀j,j<(ag x4)→A8 j=(aA A6 (ag x3) 1 (ao (fun _=>0) 0 128)) j)∧eV ⟨[],[v9],[x4],[A8],[],[],[]⟩)∧
 ∀(v9:V1) (x4:Int) (A8:Nat→Int),eV ⟨[],[v9],[x4],[A8],[],[],[]⟩→
 aw (0≤x4) (
 eJ (x4+16) ((
 aZ (¬((ak .rem .i64 (x4+16) 128)=0)) (
 ∀_:Nat,fx ((x4+1)*1) (
 ∀v10:V1,∃(Om:V1) (eW:Int) (wO:Nat→Int),Om=v10∧Om=v10∧eW=(x4+1)∧(∀j,j<(ag eW)→wO j=(ao A8 (ag x4) 0) j)∧eV ⟨[],[Om],[eW],[wO],[],[],[]⟩∧iH ⟨[],[Om],[eW],[wO],[],[],[]⟩<iH ⟨[],[v9],[x4],[A8],[],[],[]⟩)) (
 ∀v10:V1,fx (x4+16) (
 ∀v11:V1,∃(dt:Ext→Prop) (eS:Ext→Nat),(∃(gI:V1) (x5:Int) (A9 br:Nat→Int),gI=v11∧(∀j,j<8→br j=A7 j)∧gI=v11∧x5=(x4+16)∧(∀j,j<(ag x5)→A9 j=(aA A8 (ag x4) 16 (ao (ao (ao (ao (ao (ao (ao (ao (fun _=>0) 15 (ae .u8 (ak .shr .u64 (ak .shl .u64 (ae .u64 ((ae .u64 (ae .u64 x0))+(ae .u64 x1))) 3) 0))) 14 (ae .u8 (ak .shr .u64 (ak .shl .u64 (ae .u64 ((ae .u64 (ae .u64 x0))+(ae .u64 x1))) 3) 8))) 13 (ae .u8 (ak .shr .u64 (ak .shl .u64 (ae .u64 ((ae .u64 (ae .u64 x0))+(ae .u64 x1))) 3) 16))) 12 (ae .u8 (ak .shr .u64 (ak .shl .u64 (ae .u64 ((ae .u64 (ae .u64 x0))+(ae .u64 x1))) 3) 24))) 11 (ae .u8 (ak .shr .u64 (ak .shl .u64 (ae .u64 ((ae .u64 (ae .u64 x0))+(ae .u64 x1))) 3) 32))) 10 (ae .u8 (ak .shr .u64 (ak .shl .u64 (ae .u64 ((ae .u64 (ae .u64 x0))+(ae .u64 x1))) 3) 40))) 9 (ae .u8 (ak .shr .u64 (ak .shl .u64 (ae .u64 ((ae .u64 (ae .u64 x0))+(ae .u64 x1))) 3) 48))) 8 (ae .u8 (ak .shr .u64 (ak .shl .u64 (ae .u64 ((ae .u64 (ae .u64 x0))+(ae .u64 x1))) 3) 56)))) j)∧dt ⟨[],[gI],[x5],[A9,br],[],[],[]⟩)∧
 ∀(gI:V1) (x5:Int) (A9 br:Nat→Int),dt ⟨[],[gI],[x5],[A9,br],[],[],[]⟩→
 aw (0≤x5) (
 aZ (0<x5) (
 aw (128≤x5) (
 Cl 74 [.pointer (some ⟨b0,0,none⟩),(aC 1 gI.v 0 128 none)] [aq b0 true ([v0.v,v1.v,.int .i64 8,.int .i64 28,.int .i64 34,.int .i64 39,.int .i64 14,.int .i64 18,.int .i64 41,.int .i64 1,.int .i64 8,.int .i64 7,.int .i64 19,.int .i64 61,.int .i64 6]),au true 24 1 v0.v 8 (aK 8 [aJ .u64 1 br]),au true 24 1 v1.v 80 (aK 80 [aJ .u64 1 A1]),bo gI x5 A9] fun x hs _=> ∃jM:(Nat→Int),x= .tuple #[]∧hs=[aq b0 true ([v0.v,v1.v,.int .i64 8,.int .i64 28,.int .i64 34,.int .i64 39,.int .i64 14,.int .i64 18,.int .i64 41,.int .i64 1,.int .i64 8,.int .i64 7,.int .i64 19,.int .i64 61,.int .i64 6]),au true 24 1 v0.v 8 (aK 8 [aJ .u64 1 jM]),au true 24 1 v1.v 80 (aK 80 [aJ .u64 1 A1]),bo gI x5 A9]∧
 aw (128≤x5) (
 aw (0≤(x5 - 128)) (
 ∀jm:V1,∃(nA:V1) (gH:Int) (tj jr:Nat→Int),nA=jm∧(∀j,j<8→jr j=jM j)∧nA=jm∧gH=(x5 - 128)∧(∀j,j<(ag gH)→tj j=(aE A9 128) j)∧dt ⟨[],[nA],[gH],[tj,jr],[],[],[]⟩∧eS ⟨[],[nA],[gH],[tj,jr],[],[],[]⟩<eS ⟨[],[gI],[x5],[A9,br],[],[],[]⟩)))) (
 ∀(b3:Nat) (_:V1) (_:Nat) (_:V1) (_:Nat) (_:V1) (_:Nat) (_:V1) (_:Nat) (_:V1) (_:Nat) (_:V1) (_:Nat) (_:V1) (_:Nat) (_:V1) (_:Nat) (_:V1) (_:Nat) (_:V1) (_:Nat) (_:V1) (_:Nat) (_:V1) (_:Nat) (_:V1) (_:Nat) (_:V1) (_:Nat) (_:V1) (_:Nat) (_:V1) (_:Nat) (_:V1) (_:Nat) (_:V1) (_:Nat) (_:V1) (_:Nat) (_:V1) (_:Nat) (_:V1) (_:Nat) (_:V1) (_:Nat) (_:V1) (_:Nat) (_:V1) (_:Nat) (_:V1) (_:Nat) (_:V1) (_:Nat) (_:V1) (_:Nat) (_:V1) (_:Nat) (_:V1) (_:Nat) (_:V1) (_:Nat) (_:V1) (_:Nat) (_:V1) (_:Nat) (_:V1) (_:Nat) (_:V1) (_:Nat) (_:V1) (_:Nat) (_:V1) (_:Nat) (_:V1) (_:Nat) (_:V1) (_:Nat) (_:V1) (_:Nat) (_:V1) (_:Nat) (_:V1) (_:Nat) (_:V1) (_:Nat) (_:V1) (_:Nat) (_:V1) (_:Nat) (_:V1) (_:Nat) (_:V1) (_:Nat) (_:V1) (_:Nat) (_:V1) (_:Nat) (_:V1) (_:Nat) (_:V1) (_:Nat) (_:V1) (_:Nat) (_:V1) (_:Nat) (_:V1) (_:Nat) (_:V1) (_:Nat) (_:V1) (_:Nat) (_:V1) (_:Nat) (_:V1) (_:Nat) (_:V1) (_:Nat) (_:V1) (_:Nat) (_:V1) (_:Nat) (_:V1) (_:Nat) (_:V1) (_:Nat) (_:V1) (_:Nat) (ZH:V1),ax (ZH.v) [aq b0 true ([v0.v,v1.v,.int .i64 8,.int .i64 28,.int .i64 34,.int .i64 39,.int .i64 14,.int .i64 18,.int .i64 41,.int .i64 1,.int .i64 8,.int .i64 7,.int .i64 19,.int .i64 61,.int .i64 6]),au true 24 1 v0.v 8 (aK 8 [aJ .u64 1 br]),au true 24 1 v1.v 80 (aK 80 [aJ .u64 1 A1]),aq b1 true ([v2.v,v3.v]),bi v2 x0 A2,bi v3 x1 A3,bo gI x5 A9,aq b2 true ([.int .u8 128]),bn true v10 16 (ao (ao (ao (ao (ao (ao (ao (ao (fun _=>0) 15 (ae .u8 (ak .shr .u64 (ak .shl .u64 (ae .u64 ((ae .u64 (ae .u64 x0))+(ae .u64 x1))) 3) 0))) 14 (ae .u8 (ak .shr .u64 (ak .shl .u64 (ae .u64 ((ae .u64 (ae .u64 x0))+(ae .u64 x1))) 3) 8))) 13 (ae .u8 (ak .shr .u64 (ak .shl .u64 (ae .u64 ((ae .u64 (ae .u64 x0))+(ae .u64 x1))) 3) 16))) 12 (ae .u8 (ak .shr .u64 (ak .shl .u64 (ae .u64 ((ae .u64 (ae .u64 x0))+(ae .u64 x1))) 3) 24))) 11 (ae .u8 (ak .shr .u64 (ak .shl .u64 (ae .u64 ((ae .u64 (ae .u64 x0))+(ae .u64 x1))) 3) 32))) 10 (ae .u8 (ak .shr .u64 (ak .shl .u64 (ae .u64 ((ae .u64 (ae .u64 x0))+(ae .u64 x1))) 3) 40))) 9 (ae .u8 (ak .shr .u64 (ak .shl .u64 (ae .u64 ((ae .u64 (ae .u64 x0))+(ae .u64 x1))) 3) 48))) 8 (ae .u8 (ak .shr .u64 (ak .shl .u64 (ae .u64 ((ae .u64 (ae .u64 x0))+(ae .u64 x1))) 3) 56))),aq b3 true ([.int .u8 (ae .u8 (ak .shr .u64 (br 0) 56))]),bn true ZH 64 (ao (ao (ao (ao (ao (ao (ao (ao (ao (ao (ao (ao (ao (ao (ao (ao (ao (ao (ao (ao (ao (ao (ao (ao (ao (ao (ao (ao (ao (ao (ao (ao (ao (ao (ao (ao (ao (ao (ao (ao (ao (ao (ao (ao (ao (ao (ao (ao (ao (ao (ao (ao (ao (ao (ao (ao (ao (ao (ao (ao (ao (ao (ao (ao (fun _=>0) 0 (ae .u8 (ak .shr .u64 (br 0) 56))) 1 (ae .u8 (ak .shr .u64 (br 0) 48))) 2 (ae .u8 (ak .shr .u64 (br 0) 40))) 3 (ae .u8 (ak .shr .u64 (br 0) 32))) 4 (ae .u8 (ak .shr .u64 (br 0) 24))) 5 (ae .u8 (ak .shr .u64 (br 0) 16))) 6 (ae .u8 (ak .shr .u64 (br 0) 8))) 7 (ae .u8 (ak .shr .u64 (br 0) 0))) 8 (ae .u8 (ak .shr .u64 (br 1) 56))) 9 (ae .u8 (ak .shr .u64 (br 1) 48))) 10 (ae .u8 (ak .shr .u64 (br 1) 40))) 11 (ae .u8 (ak .shr .u64 (br 1) 32))) 12 (ae .u8 (ak .shr .u64 (br 1) 24))) 13 (ae .u8 (ak .shr .u64 (br 1) 16))) 14 (ae .u8 (ak .shr .u64 (br 1) 8))) 15 (ae .u8 (ak .shr .u64 (br 1) 0))) 16 (ae .u8 (ak .shr .u64 (br 2) 56))) 17 (ae .u8 (ak .shr .u64 (br 2) 48))) 18 (ae .u8 (ak .shr .u64 (br 2) 40))) 19 (ae .u8 (ak .shr .u64 (br 2) 32))) 20 (ae .u8 (ak .shr .u64 (br 2) 24))) 21 (ae .u8 (ak .shr .u64 (br 2) 16))) 22 (ae .u8 (ak .shr .u64 (br 2) 8))) 23 (ae .u8 (ak .shr .u64 (br 2) 0))) 24 (ae .u8 (ak .shr .u64 (br 3) 56))) 25 (ae .u8 (ak .shr .u64 (br 3) 48))) 26 (ae .u8 (ak .shr .u64 (br 3) 40))) 27 (ae .u8 (ak .shr .u64 (br 3) 32))) 28 (ae .u8 (ak .shr .u64 (br 3) 24))) 29 (ae .u8 (ak .shr .u64 (br 3) 16))) 30 (ae .u8 (ak .shr .u64 (br 3) 8))) 31 (ae .u8 (ak .shr .u64 (br 3) 0))) 32 (ae .u8 (ak .shr .u64 (br 4) 56))) 33 (ae .u8 (ak .shr .u64 (br 4) 48))) 34 (ae .u8 (ak .shr .u64 (br 4) 40))) 35 (ae .u8 (ak .shr .u64 (br 4) 32))) 36 (ae .u8 (ak .shr .u64 (br 4) 24))) 37 (ae .u8 (ak .shr .u64 (br 4) 16))) 38 (ae .u8 (ak .shr .u64 (br 4) 8))) 39 (ae .u8 (ak .shr .u64 (br 4) 0))) 40 (ae .u8 (ak .shr .u64 (br 5) 56))) 41 (ae .u8 (ak .shr .u64 (br 5) 48))) 42 (ae .u8 (ak .shr .u64 (br 5) 40))) 43 (ae .u8 (ak .shr .u64 (br 5) 32))) 44 (ae .u8 (ak .shr .u64 (br 5) 24))) 45 (ae .u8 (ak .shr .u64 (br 5) 16))) 46 (ae .u8 (ak .shr .u64 (br 5) 8))) 47 (ae .u8 (ak .shr .u64 (br 5) 0))) 48 (ae .u8 (ak .shr .u64 (br 6) 56))) 49 (ae .u8 (ak .shr .u64 (br 6) 48))) 50 (ae .u8 (ak .shr .u64 (br 6) 40))) 51 (ae .u8 (ak .shr .u64 (br 6) 32))) 52 (ae .u8 (ak .shr .u64 (br 6) 24))) 53 (ae .u8 (ak .shr .u64 (br 6) 16))) 54 (ae .u8 (ak .shr .u64 (br 6) 8))) 55 (ae .u8 (ak .shr .u64 (br 6) 0))) 56 (ae .u8 (ak .shr .u64 (br 7) 56))) 57 (ae .u8 (ak .shr .u64 (br 7) 48))) 58 (ae .u8 (ak .shr .u64 (br 7) 40))) 59 (ae .u8 (ak .shr .u64 (br 7) 32))) 60 (ae .u8 (ak .shr .u64 (br 7) 24))) 61 (ae .u8 (ak .shr .u64 (br 7) 16))) 62 (ae .u8 (ak .shr .u64 (br 7) 8))) 63 (ae .u8 (ak .shr .u64 (br 7) 0)))]))))))))))))))))
theorem ER(ax:PT)(x0 x1:Int)(A0 A1 A2 A3:Nat→Int)(v0 v1 v2 v3:V1)(b0 b1:Nat)(h:vi ax x0 x1 A0 A1 A2 A3 v0 v1 v2 v3 b0 b1):ar adE 63 [.pointer (some ⟨b0,0,none⟩),.slice (some ⟨b1,0,none⟩) 2 2] [aq b0 true ([v0.v,v1.v,.int .i64 8,.int .i64 28,.int .i64 34,.int .i64 39,.int .i64 14,.int .i64 18,.int .i64 41,.int .i64 1,.int .i64 8,.int .i64 7,.int .i64 19,.int .i64 61,.int .i64 6]),au true 24 1 v0.v 8 (aK 8 [aJ .u64 1 A0]),au true 24 1 v1.v 80 (aK 80 [aJ .u64 1 A1]),aq b1 true ([v2.v,v3.v]),bi v2 x0 A2,bi v3 x1 A3] ax:=
 Bf (C:=Fq.cx) [.ptr 0 0,.sl 1 (.lit 0) 1 (.lit 2) (.lit 2)] [.row 0 true [.vv 0,.vv 1,.int .i64 (.lit 8),.int .i64 (.lit 28),.int .i64 (.lit 34),.int .i64 (.lit 39),.int .i64 (.lit 14),.int .i64 (.lit 18),.int .i64 (.lit 41),.int .i64 (.lit 1),.int .i64 (.lit 8),.int .i64 (.lit 7),.int .i64 (.lit 19),.int .i64 (.lit 61),.int .i64 (.lit 6)],.bu true 0 24 1 (.lit 8) [⟨.int .u64,1,.aO 0⟩],.bu true 1 24 1 (.lit 80) [⟨.int .u64,1,.aO 1⟩],.row 1 true [.vv 2,.vv 3],.bu false 2 5 1 (.var 0) [⟨.int .u8,1,.aO 2⟩],.bu false 3 5 1 (.var 1) [⟨.int .u8,1,.aO 3⟩]] ⟨2,4,2,4,0,0,0⟩ ⟨[x0,x1],[A0,A1,A2,A3],[],[b0,b1],[v0,v1,v2,v3],[],[],[]⟩ 11 Try.func63 (by kernel_rfl) h
open Go Go.RX Go.Proofs Go.RX.Sh Go.RX.Fg Go.RX.Fj Go.RX.Fk Go.RX.Fm
set_option maxHeartbeats 4000000 in
theorem Br(b:Nat)(b1:Nat)(vh vk w0 w1:V1)(n0 n1:Nat)(T0 T1 A0 A1:Nat→Int)(hl:n0+n1+600≤140737488355328):
  ar adE 63 [.pointer (some ⟨b,0,none⟩),.slice (some ⟨b1,0,none⟩) 2 2] [mJ b vh vk,dj vh 8 A0,dj vk 80 A1,aq b1 true [w0.v,w1.v],bn false w0 n0 T0,bn false w1 n1 T1] fun r hs=> ∃(o:V1) (N:Nat→Int),fD N∧r=o.v∧hs=[aq b1 true [w0.v,w1.v],bn false w0 n0 T0,bn false w1 n1 T1,bn true o 64 N]:=by
 refine ar.post (p:=fun r hs=> ∃(o:V1) (N:Nat→Int),fD N∧r=o.v∧hs[3]? =some (aq b1 true [w0.v,w1.v])∧hs[4]? =some (bn false w0 n0 T0)∧hs[5]? =some (bn false w1 n1 T1)∧hs[10]? =some (bn true o 64 N)) ?_ ?_;rotate_left
 ·rintro r hs ⟨o,N,hN,rfl,g0,g1,g2,g3⟩;refine⟨_,bU.idx [3,4,5,10] (by decide) ?_,o,N,hN,rfl,rfl⟩;intro m u hu
  match m,hu with
  | 0,hu=>cases hu;exact⟨3,rfl,g0⟩
  | 1,hu=>cases hu;exact⟨4,rfl,g1⟩
  | 2,hu=>cases hu;exact⟨5,rfl,g2⟩
  | 3,hu=>cases hu;exact⟨10,rfl,g3⟩
  | m+4,hu=>simp at hu
 refine ER _ (n0:Int) (n1:Int) A0 A1 T0 T1 vh vk w0 w1 b b1 ?_;unfold vi
 iterate 2 refine⟨by omega,fun _=>?_⟩
 intro u0;refine⟨fun e=> ∃r:Nat,r≤n0∧e.i=[(r:Int)],fun e=>(e.i.getD 0 0:Int).toNat,?_,?_⟩
 ·exact⟨u0,_,_,_,rfl,fun _ _=>rfl,rfl,rfl,fun _ _=>rfl,n0,by omega,rfl⟩
 rintro z0 x B0 C0 ⟨r,hr,hx⟩;simp only [adF,and_true]at hx;subst hx;refine⟨by omega,fun _=>⟨fun ig=>?_,fun bP=>?_⟩⟩
 ·refine⟨_,dx (B:=[bn true z0 r B0]) b vh vk (aI 1 z0.v 0 128 none) C0 A1 _ (b_ 128 (by omega)),?_⟩;rintro x hs ⟨C,rfl,rfl⟩;refine⟨C,rfl,rfl,by omega,fun _=>⟨by omega,fun _=>?_⟩⟩;intro u;refine⟨u,_,_,_,rfl,fun _ _=>rfl,rfl,rfl,fun _ _=>rfl,⟨r - 128,by omega,congrArg (fun z:Int=>[z]) (by omega)⟩,?_⟩;simp only [ah];omega
 iterate 2 refine⟨by omega,fun _=>?_⟩
 intro u1;refine⟨fun e=> ∃r:Nat,r≤n0+n1∧e.i=[(r:Int)],fun e=>(e.i.getD 0 0:Int).toNat,?_,?_⟩
 ·exact⟨u1,_,_,_,rfl,fun _ _=>rfl,rfl,rfl,fun _ _=>rfl,r+n1,by omega,by rw [adH]⟩
 clear hr bP;rintro z1 x B1 C1 ⟨r,hr,hx⟩;simp only [adF,and_true]at hx;subst hx;refine⟨by omega,fun _=>⟨fun ig=>?_,fun bP=>?_⟩⟩
 ·refine⟨_,dx (B:=[bn true z1 r B1]) b vh vk (aI 1 z1.v 0 128 none) C1 A1 _ (b_ 128 (by omega)),?_⟩;rintro x hs ⟨C,rfl,rfl⟩;refine⟨C,rfl,rfl,by omega,fun _=>⟨by omega,fun _=>?_⟩⟩;intro u;refine⟨u,_,_,_,rfl,fun _ _=>rfl,rfl,rfl,fun _ _=>rfl,⟨r - 128,by omega,congrArg (fun z:Int=>[z]) (by omega)⟩,?_⟩;simp only [ah];omega
 intro b2;refine⟨by omega,fun _=>?_⟩;intro u8;refine⟨fun e=> ∃k:Nat,r+1≤k∧k≤240∧e.i=[(k:Int)],fun e=>((260:Int) - e.i.getD 0 0).toNat,⟨u8,_,_,rfl,rfl,rfl,fun _ _=>rfl,r+1,by omega,by omega,by rw [adH];rfl⟩,?_⟩;rintro z8 x D ⟨k,Is,yx,hx⟩;simp only [adF,and_true]at hx;subst hx;have px:ak .rem .i64 ((k:Int)+16) 128=(((k+16)%128:Nat):Int):=by rw [show(k:Int)+16=((k+16:Nat):Int) by omega];rfl
 rw [px]
 iterate 3 refine⟨by omega,fun _=>?_⟩
 refine⟨fun dR=>?_,fun heq=>?_⟩
 ·intro b3;refine⟨by omega,fun _=>?_⟩;intro u;refine⟨u,_,_,rfl,rfl,rfl,fun _ _=>rfl,⟨k+1,by omega,by omega,by rw [adH];rfl⟩,?_⟩;simp only [ah];omega
 intro u9;refine⟨by omega,fun _=>?_⟩;intro GY;refine⟨fun e=> ∃m:Nat,m%128=0∧m≤256∧e.i=[(m:Int)],fun e=>(e.i.getD 0 0:Int).toNat,⟨GY,_,_,_,rfl,fun _ _=>rfl,rfl,rfl,fun _ _=>rfl,k+16,by omega,by omega,congrArg (fun z:Int=>[z]) (by omega)⟩,?_⟩;rintro yy x E F ⟨m,hm,LZ,hx⟩;simp only [adF,and_true]at hx;subst hx;refine⟨by omega,fun _=>⟨fun mg=>?_,fun oF=>?_⟩⟩
 ·refine⟨by omega,fun _=>?_⟩;refine⟨_,dx (B:=[bn true yy m E]) b vh vk (aI 1 yy.v 0 128 none) F A1 _ (b_ 128 (by omega)),?_⟩;rintro x hs ⟨C,rfl,rfl⟩;refine⟨C,rfl,rfl,by omega,fun _=>⟨by omega,fun _=>?_⟩⟩;intro u;refine⟨u,_,_,_,rfl,fun _ _=>rfl,rfl,rfl,fun _ _=>rfl,⟨m - 128,by omega,by omega,congrArg (fun z:Int=>[z]) (by omega)⟩,?_⟩;simp only [ah];omega
 ·intros
  refine⟨_,_,?_,rfl,rfl,rfl,rfl,rfl⟩
  repeat (first | exact m_ | apply qg)
end Go.RX.Fq
