/- Sums by lengths. -/
import Derived.Test.YtmgbbbmdbpbeeaaM38
open Go.IntKind renaming wrap → ae
open Go.Proofs.Try renaming prog → adE
open Int renaming natCast_add → adH, toNat → ag
open List renaming getD_cons_succ → adx, getD_cons_zero → ah
open List.cons renaming injEq → adF
namespace Go.RX.Fq
open Go Go.RX Go.Proofs Go.RX.Sh Go.RX.Fg Go.RX.Fj Go.RX.Fk Go.RX.Fm
set_option maxHeartbeats 4000000 in
theorem Bw(b:Nat)(vl:V1)(vh vk w0 w1 w2 w3:V1)(n0 n1 n2 n3:Nat)(T0 T1 T2 T3 A0 A1:Nat→Int)(hl:n0+n1+n2+n3+600≤140737488355328):
  ar adE 63 [.pointer (some ⟨b,0,none⟩),vl.v] [mJ b vh vk,dj vh 8 A0,dj vk 80 A1,au true 23 1 vl.v 4 [w0.v,w1.v,w2.v,w3.v],bn false w0 n0 T0,bn false w1 n1 T1,bn false w2 n2 T2,bn false w3 n3 T3] fun r hs=> ∃(o:V1) (N:Nat→Int),fD N∧r=o.v∧hs=[au true 23 1 vl.v 4 [w0.v,w1.v,w2.v,w3.v],bn false w0 n0 T0,bn false w1 n1 T1,bn false w2 n2 T2,bn false w3 n3 T3,bn true o 64 N]:=by
 refine ar.post (p:=fun r hs=> ∃(o:V1) (N:Nat→Int),fD N∧r=o.v∧hs[3]? =some (au true 23 1 vl.v 4 [w0.v,w1.v,w2.v,w3.v])∧hs[4]? =some (bn false w0 n0 T0)∧hs[5]? =some (bn false w1 n1 T1)∧hs[6]? =some (bn false w2 n2 T2)∧hs[7]? =some (bn false w3 n3 T3)∧hs[12]? =some (bn true o 64 N)) ?_ ?_;rotate_left
 ·rintro r hs ⟨o,N,hN,rfl,g0,g1,g2,g3,g4,g5⟩;refine⟨_,bU.idx [3,4,5,6,7,12] (by decide) ?_,o,N,hN,rfl,rfl⟩;intro m u hu
  match m,hu with
  | 0,hu=>cases hu;exact⟨3,rfl,g0⟩
  | 1,hu=>cases hu;exact⟨4,rfl,g1⟩
  | 2,hu=>cases hu;exact⟨5,rfl,g2⟩
  | 3,hu=>cases hu;exact⟨6,rfl,g3⟩
  | 4,hu=>cases hu;exact⟨7,rfl,g4⟩
  | 5,hu=>cases hu;exact⟨12,rfl,g5⟩
  | m+6,hu=>simp at hu
 refine ET _ (n0:Int) (n1:Int) (n2:Int) (n3:Int) A0 A1 T0 T1 T2 T3 vh vk vl w0 w1 w2 w3 b ?_;unfold vm
 iterate 2 refine⟨by omega,fun _=>?_⟩
 intro u0;refine⟨fun e=> ∃r:Nat,r≤n0∧e.i=[(r:Int)],fun e=>(e.i.getD 0 0:Int).toNat,?_,?_⟩
 ·exact⟨u0,_,_,_,rfl,fun _ _=>rfl,rfl,rfl,fun _ _=>rfl,n0,by omega,rfl⟩
 rintro z0 x B0 C0 ⟨r,hr,hx⟩;simp only [adF,and_true]at hx;subst hx;refine⟨by omega,fun _=>⟨fun ig=>?_,fun bP=>?_⟩⟩
 ·refine⟨_,dx (B:=[bn true z0 r B0]) b vh vk (aI 1 z0.v 0 128 none) C0 A1 _ (b_ 128 (by omega)),?_⟩;rintro x hs ⟨C,rfl,rfl⟩;refine⟨C,rfl,rfl,by omega,fun _=>⟨by omega,fun _=>?_⟩⟩;intro u;refine⟨u,_,_,_,rfl,fun _ _=>rfl,rfl,rfl,fun _ _=>rfl,⟨r - 128,by omega,congrArg (fun z:Int=>[z]) (by omega)⟩,?_⟩;simp only [ah];omega
 iterate 2 refine⟨by omega,fun _=>?_⟩
 intro u1;refine⟨fun e=> ∃r:Nat,r≤n0+n1∧e.i=[(r:Int)],fun e=>(e.i.getD 0 0:Int).toNat,?_,?_⟩
 ·exact⟨u1,_,_,_,rfl,fun _ _=>rfl,rfl,rfl,fun _ _=>rfl,r+n1,by omega,by rw [adH]⟩
 clear hr bP;rintro z1 x B1 C1 ⟨r,hr,hx⟩;simp only [adF,and_true]at hx;subst hx;refine⟨by omega,fun _=>⟨fun ig=>?_,fun bP=>?_⟩⟩
 ·refine⟨_,dx (B:=[bn true z1 r B1]) b vh vk (aI 1 z1.v 0 128 none) C1 A1 _ (b_ 128 (by omega)),?_⟩;rintro x hs ⟨C,rfl,rfl⟩;refine⟨C,rfl,rfl,by omega,fun _=>⟨by omega,fun _=>?_⟩⟩;intro u;refine⟨u,_,_,_,rfl,fun _ _=>rfl,rfl,rfl,fun _ _=>rfl,⟨r - 128,by omega,congrArg (fun z:Int=>[z]) (by omega)⟩,?_⟩;simp only [ah];omega
 iterate 2 refine⟨by omega,fun _=>?_⟩
 intro u2;refine⟨fun e=> ∃r:Nat,r≤n0+n1+n2∧e.i=[(r:Int)],fun e=>(e.i.getD 0 0:Int).toNat,?_,?_⟩
 ·exact⟨u2,_,_,_,rfl,fun _ _=>rfl,rfl,rfl,fun _ _=>rfl,r+n2,by omega,by rw [adH]⟩
 clear hr bP;rintro z2 x B2 C2 ⟨r,hr,hx⟩;simp only [adF,and_true]at hx;subst hx;refine⟨by omega,fun _=>⟨fun ig=>?_,fun bP=>?_⟩⟩
 ·refine⟨_,dx (B:=[bn true z2 r B2]) b vh vk (aI 1 z2.v 0 128 none) C2 A1 _ (b_ 128 (by omega)),?_⟩;rintro x hs ⟨C,rfl,rfl⟩;refine⟨C,rfl,rfl,by omega,fun _=>⟨by omega,fun _=>?_⟩⟩;intro u;refine⟨u,_,_,_,rfl,fun _ _=>rfl,rfl,rfl,fun _ _=>rfl,⟨r - 128,by omega,congrArg (fun z:Int=>[z]) (by omega)⟩,?_⟩;simp only [ah];omega
 iterate 2 refine⟨by omega,fun _=>?_⟩
 intro u3;refine⟨fun e=> ∃r:Nat,r≤n0+n1+n2+n3∧e.i=[(r:Int)],fun e=>(e.i.getD 0 0:Int).toNat,?_,?_⟩
 ·exact⟨u3,_,_,_,rfl,fun _ _=>rfl,rfl,rfl,fun _ _=>rfl,r+n3,by omega,by rw [adH]⟩
 clear hr bP;rintro z3 x B3 C3 ⟨r,hr,hx⟩;simp only [adF,and_true]at hx;subst hx;refine⟨by omega,fun _=>⟨fun ig=>?_,fun bP=>?_⟩⟩
 ·refine⟨_,dx (B:=[bn true z3 r B3]) b vh vk (aI 1 z3.v 0 128 none) C3 A1 _ (b_ 128 (by omega)),?_⟩;rintro x hs ⟨C,rfl,rfl⟩;refine⟨C,rfl,rfl,by omega,fun _=>⟨by omega,fun _=>?_⟩⟩;intro u;refine⟨u,_,_,_,rfl,fun _ _=>rfl,rfl,rfl,fun _ _=>rfl,⟨r - 128,by omega,congrArg (fun z:Int=>[z]) (by omega)⟩,?_⟩;simp only [ah];omega
 intro b2;refine⟨by omega,fun _=>?_⟩;intro u8;refine⟨fun e=> ∃k:Nat,r+1≤k∧k≤240∧e.i=[(k:Int)],fun e=>((260:Int) - e.i.getD 0 0).toNat,⟨u8,_,_,rfl,rfl,rfl,fun _ _=>rfl,r+1,by omega,by omega,by rw [adH];rfl⟩,?_⟩;rintro z8 x D ⟨k,Is,yx,hx⟩;simp only [adF,and_true]at hx;subst hx;have px:ak .rem .i64 ((k:Int)+16) 128=(((k+16)%128:Nat):Int):=by rw [show(k:Int)+16=((k+16:Nat):Int) by omega];rfl
 rw [px]
 iterate 3 refine⟨by omega,fun _=>?_⟩
 refine⟨fun dR=>?_,fun heq=>?_⟩
 ·intro b3;refine⟨by omega,fun _=>?_⟩;intro u;refine⟨u,_,_,rfl,rfl,rfl,fun _ _=>rfl,⟨k+1,by omega,by omega,by rw [adH];rfl⟩,?_⟩;simp only [ah];omega
 intro u9;refine⟨by omega,fun _=>?_⟩;intro GY;refine⟨fun e=> ∃m:Nat,m%128=0∧m≤256∧e.i=[(m:Int)],fun e=>(e.i.getD 0 0:Int).toNat,⟨GY,_,_,_,rfl,fun _ _=>rfl,rfl,rfl,fun _ _=>rfl,k+16,by omega,by omega,congrArg (fun z:Int=>[z]) (by omega)⟩,?_⟩;rintro yy x E F ⟨m,hm,LZ,hx⟩;simp only [adF,and_true]at hx;subst hx;refine⟨by omega,fun _=>⟨fun mg=>?_,fun oF=>?_⟩⟩
 ·refine⟨by omega,fun _=>?_⟩;refine⟨_,dx (B:=[bn true yy m E]) b vh vk (aI 1 yy.v 0 128 none) F A1 _ (b_ 128 (by omega)),?_⟩;rintro x hs ⟨C,rfl,rfl⟩;refine⟨C,rfl,rfl,by omega,fun _=>⟨by omega,fun _=>?_⟩⟩;intro u;refine⟨u,_,_,_,rfl,fun _ _=>rfl,rfl,rfl,fun _ _=>rfl,⟨m - 128,by omega,by omega,congrArg (fun z:Int=>[z]) (by omega)⟩,?_⟩;simp only [ah];omega
 ·intros
  refine⟨_,_,?_,rfl,rfl,rfl,rfl,rfl,rfl,rfl⟩
  repeat (first | exact m_ | apply qg)
end Go.RX.Fq

namespace Go.RX.Fm
open Go Go.RX Go.Proofs Go.RX.Sh Go.RX.Fg Go.RX.Fj Go.RX.Fk
set_option maxHeartbeats 4000000 in
theorem Cr(b:Nat)(b1:Nat)(vh vk w0 w1:V1)(n0 n1:Nat)(T0 T1 M:Nat→Nat)(hM: ∀j,M j<256)(Cs: ∀j,j<n0→T0 j=M (0+j))(Ct: ∀j,j<n1→T1 j=M (n0+j))(A0 A1:Nat→Int)(s6: ∀j,j<8→A0 j=(H0 j:Nat))(tZ: ∀j,j<64→A1 j=(K0 j:Nat))(hl:n0+n1+300≤140737488355328):
  ar adE 61 [.pointer (some ⟨b,0,none⟩),.slice (some ⟨b1,0,none⟩) 2 2] [i_ b vh vk,bQ vh 8 A0,bQ vk 64 A1,aq b1 true [w0.v,w1.v],al false w0 n0 T0,al false w1 n1 T1] fun r hs=> ∃o:V1,r=o.v∧hs=[aq b1 true [w0.v,w1.v],al false w0 n0 T0,al false w1 n1 T1,al true o 32 (gF (n0+n1) M)]:=by
 refine ar.post (p:=fun r hs=> ∃o:V1,r=o.v∧hs[3]? =some (aq b1 true [w0.v,w1.v])∧hs[4]? =some (al false w0 n0 T0)∧hs[5]? =some (al false w1 n1 T1)∧hs[10]? =some (al true o 32 (gF (n0+n1) M))) ?_ ?_;rotate_left
 ·rintro r hs ⟨o,rfl,g0,g1,g2,g3⟩;refine⟨_,bU.idx [3,4,5,10] (by decide) ?_,o,rfl,rfl⟩;intro m u hu
  match m,hu with
  | 0,hu=>cases hu;exact⟨3,rfl,g0⟩
  | 1,hu=>cases hu;exact⟨4,rfl,g1⟩
  | 2,hu=>cases hu;exact⟨5,rfl,g2⟩
  | 3,hu=>cases hu;exact⟨10,rfl,g3⟩
  | m+4,hu=>simp at hu
 refine z7 _ (n0:Int) (n1:Int) A0 A1 (fun j=>(T0 j:Nat)) (fun j=>(T1 j:Nat)) vh vk w0 w1 b b1 ?_;unfold tf;have hS:=Ix hM (n0+n1);obtain⟨N,hN⟩: ∃N,N=n0+n1:=⟨_,rfl⟩;rw [←hN]at hS ⊢;have hNl:N+300≤140737488355328:=by omega
 have C9: ∀j,j<N→cM N M j=M j:=fun j hj=>by unfold cM;rw [if_pos hj]
 have hq:lE N=64*((N+8)/64+1):=rfl;refine⟨by omega,fun _=>⟨by omega,fun _=>?_⟩⟩;intro u0;refine⟨fun e=> ∃q r:Nat,64*q+r=n0∧e.i=[(r:Int)]∧(∀j,j<r→(e.a.getD 0 fun _=>0) j=(cM N M (64*q+j):Nat))∧∀j,j<8→(e.a.getD 1 fun _=>0) j=(rz (cM N M) q j:Nat),fun e=>(e.i.getD 0 0:Int).toNat,?_,?_⟩
 ·refine⟨u0,_,_,_,rfl,fun _ _=>rfl,rfl,rfl,fun _ _=>rfl,0,n0,by omega,rfl,fun j hj=>?_,fun j hj=>?_⟩
  ·simp only [ah];rw [C9 _ (by omega),Cs j hj]
  ·simp only [ah,adx];exact s6 j hj
 rintro z0 x B0 C0 ⟨q,r,B9,hx,hB,hH⟩;simp only [adF,and_true]at hx;subst hx;simp only [ah,adx]at hB hH;refine⟨by omega,fun _=>⟨fun ig=>?_,fun bP=>?_⟩⟩
 ·refine⟨_,du (B:=[au true 5 1 z0.v r (aK r [aJ .u8 1 B0])]) b vh vk (aI 1 z0.v 0 64 none) C0 A1 K0 (rz (cM N M) q) (fun i=>cM N M (64*q+i)) hH (lv _ q) tZ (fun j=>hS _) (lx (by omega) hB),?_⟩;rintro x hs ⟨C,rfl,rfl,hC⟩;refine⟨C,rfl,rfl,by omega,fun _=>⟨by omega,fun _=>?_⟩⟩;intro u;refine⟨u,_,_,_,rfl,fun _ _=>rfl,rfl,rfl,fun _ _=>rfl,⟨q+1,r - 64,by omega,congrArg (fun z:Int=>[z]) (by omega),fun j hj=>?_,fun j hj=>?_⟩,?_⟩
  ·simp only [ah];unfold aE;rw [hB _ (by omega)];congr 2;omega
  ·simp only [ah,adx];exact hC j hj
  ·simp only [ah];omega
 refine⟨by omega,fun _=>⟨by omega,fun _=>?_⟩⟩;intro u1;refine⟨fun e=> ∃q r:Nat,64*q+r=n0+n1∧e.i=[(r:Int)]∧(∀j,j<r→(e.a.getD 0 fun _=>0) j=(cM N M (64*q+j):Nat))∧∀j,j<8→(e.a.getD 1 fun _=>0) j=(rz (cM N M) q j:Nat),fun e=>(e.i.getD 0 0:Int).toNat,?_,?_⟩
 ·refine⟨u1,_,_,_,rfl,fun _ _=>rfl,rfl,rfl,fun _ _=>rfl,q,r+n1,by omega,by rw [adH],fun j hj=>?_,fun j hj=>?_⟩
  ·simp only [ah];have tr:ag (r:Int)=r:=rfl;have tn:ag (n1:Int)=n1:=rfl;rw [tr,tn];unfold aA;by_cases c:j<r
   ·rw [if_neg (by omega)];exact hB j c
   ·rw [if_pos (by omega)];show((T1 (j - r):Nat):Int)=_;rw [Ct _ (by omega),C9 _ (by omega)];congr 2;omega
  ·simp only [ah,adx];exact hH j hj
 clear hB hH B9 bP;rintro z1 x B1 C1 ⟨q,r,B9,hx,hB,hH⟩;simp only [adF,and_true]at hx;subst hx;simp only [ah,adx]at hB hH;refine⟨by omega,fun _=>⟨fun ig=>?_,fun bP=>?_⟩⟩
 ·refine⟨_,du (B:=[au true 5 1 z1.v r (aK r [aJ .u8 1 B1])]) b vh vk (aI 1 z1.v 0 64 none) C1 A1 K0 (rz (cM N M) q) (fun i=>cM N M (64*q+i)) hH (lv _ q) tZ (fun j=>hS _) (lx (by omega) hB),?_⟩;rintro x hs ⟨C,rfl,rfl,hC⟩;refine⟨C,rfl,rfl,by omega,fun _=>⟨by omega,fun _=>?_⟩⟩;intro u;refine⟨u,_,_,_,rfl,fun _ _=>rfl,rfl,rfl,fun _ _=>rfl,⟨q+1,r - 64,by omega,congrArg (fun z:Int=>[z]) (by omega),fun j hj=>?_,fun j hj=>?_⟩,?_⟩
  ·simp only [ah];unfold aE;rw [hB _ (by omega)];congr 2;omega
  ·simp only [ah,adx];exact hC j hj
  ·simp only [ah];omega
 intro b2;refine⟨by omega,fun _=>?_⟩;intro u8;have hqN:N=64*q+r:=by omega
 have Yb:r<64:=by omega
 have tr:ag (r:Int)=r:=rfl;rw [tr];refine⟨fun e=> ∃k:Nat,r+1≤k∧k+8+64*q≤lE N∧e.i=[(k:Int)]∧∀j,j<k→(e.a.getD 0 fun _=>0) j=(cM N M (64*q+j):Nat),fun e=>((200:Int) - e.i.getD 0 0).toNat,⟨u8,_,_,rfl,rfl,rfl,fun _ _=>rfl,r+1,by omega,by omega,by rw [adH];rfl,fun j hj=>?_⟩,?_⟩
 ·simp only [ah];unfold aA;by_cases c:j<r
  ·rw [if_neg (by omega)];exact hB j c
  ·have:j=r:=by omega
   subst this;rw [if_pos (by omega),Nat.sub_self];unfold cM;rw [if_neg (by omega),if_pos (by omega)];rfl
 rintro z8 x D ⟨k,Is,yx,hx,hD⟩;simp only [adF,and_true]at hx;subst hx;simp only [ah]at hD;have px:ak .rem .i64 ((k:Int)+8) 64=(((k+8)%64:Nat):Int):=by rw [show(k:Int)+8=((k+8:Nat):Int) by omega];rfl
 rw [px];have tk:ag (k:Int)=k:=rfl;rw [tk]
 iterate 3 refine⟨by omega,fun _=>?_⟩
 refine⟨fun dR=>?_,fun heq=>?_⟩
 ·intro b3;refine⟨by omega,fun _=>?_⟩;intro u;refine⟨u,_,_,rfl,rfl,rfl,fun _ _=>rfl,⟨k+1,by omega,by omega,by rw [adH];rfl,fun j hj=>?_⟩,?_⟩
  ·simp only [ah];unfold ao;split
   ·rename_i c;unfold cM;rw [if_neg (by omega),if_neg (by omega),if_pos (by omega)];rfl
   ·exact hD j (by omega)
  ·simp only [ah];omega
 have hk:k+8+64*q=lE N:=by omega
 intro u9;refine⟨by omega,fun _=>?_⟩;intro GY;have hw:ae .u64 ((ae .u64 (ae .u64 (n0:Int)))+(ae .u64 (n1:Int)))=(N:Int):=by
  rw [hN];simp only [Co (show n0<2^64 by omega)];rw [Co (show n1<2^64 by omega),←adH,Co (show n0+n1<2^64 by omega)]
 rw [hw];refine⟨fun e=> ∃p:Nat,64*p≤lE N∧e.i=[((lE N - 64*p:Nat):Int)]∧(∀j,j<lE N - 64*p→(e.a.getD 0 fun _=>0) j=(cM N M (64*p+j):Nat))∧∀j,j<8→(e.a.getD 1 fun _=>0) j=(rz (cM N M) p j:Nat),fun e=>(e.i.getD 0 0:Int).toNat,⟨GY,_,_,_,rfl,fun _ _=>rfl,rfl,rfl,fun _ _=>rfl,q,by omega,congrArg (fun z:Int=>[z]) (by omega),fun j hj=>?_,fun j hj=>?_⟩,?_⟩
 ·simp only [ah];unfold aA;by_cases c:j<k
  ·rw [if_neg (by omega)];exact hD j c
  ·rw [if_pos (by omega),MY (by omega) _ (by omega)];unfold cM;rw [if_neg (by omega),if_neg (by omega),if_neg (by omega)];congr 2;omega
 ·simp only [ah,adx];exact hH j hj
 rintro yy x E F ⟨p,hp,hx,hE,hF⟩;simp only [adF,and_true]at hx;subst hx;simp only [ah,adx]at hE hF;have tp:ag ((lE N - 64*p:Nat):Int)=lE N - 64*p:=rfl;dsimp only [bo,bi,bn];rw [tp];refine⟨by omega,fun _=>⟨fun mg=>?_,fun oF=>?_⟩⟩
 ·refine⟨by omega,fun _=>?_⟩;refine⟨_,du (B:=[au true 5 1 yy.v (lE N - 64*p) (aK (lE N - 64*p) [aJ .u8 1 E])]) b vh vk (aI 1 yy.v 0 64 none) F A1 K0 (rz (cM N M) p) (fun i=>cM N M (64*p+i)) hF (lv _ p) tZ (fun j=>hS _) (lx (by omega) hE),?_⟩;rintro x hs ⟨C,rfl,rfl,hC⟩;refine⟨C,rfl,rfl,by omega,fun _=>⟨by omega,fun _=>?_⟩⟩;intro u;refine⟨u,_,_,_,rfl,fun _ _=>rfl,rfl,rfl,fun _ _=>rfl,⟨p+1,by omega,congrArg (fun z:Int=>[z]) (by omega),fun j hj=>?_,fun j hj=>?_⟩,?_⟩
  ·simp only [ah];unfold aE;rw [hE _ (by omega)];congr 2;omega
  ·simp only [ah,adx];exact hC j hj
  ·simp only [ah];omega
 ·have P_:p=(N+8)/64+1:=by omega
  intros
  refine⟨_,rfl,rfl,rfl,rfl,congrArg some ?_⟩;unfold al gF;rw [cm (n:=32) (g:=fun j=>((Sh.bytesOf (rz (cM N M) ((N+8)/64+1)) j:Nat):Int))];intro j hj;rw [←P_];exact Rf hF j hj
set_option maxHeartbeats 4000000 in
theorem Cu(b:Nat)(vl:V1)(vh vk w0 w1 w2 w3 w4 w5 w6:V1)(n0 n1 n2 n3 n4 n5 n6:Nat)(T0 T1 T2 T3 T4 T5 T6 M:Nat→Nat)(hM: ∀j,M j<256)(Cs: ∀j,j<n0→T0 j=M (0+j))(Ct: ∀j,j<n1→T1 j=M (n0+j))(MZ: ∀j,j<n2→T2 j=M (n0+n1+j))(M0: ∀j,j<n3→T3 j=M (n0+n1+n2+j))(M1: ∀j,j<n4→T4 j=M (n0+n1+n2+n3+j))(M3: ∀j,j<n5→T5 j=M (n0+n1+n2+n3+n4+j))(SR: ∀j,j<n6→T6 j=M (n0+n1+n2+n3+n4+n5+j))(A0 A1:Nat→Int)(s6: ∀j,j<8→A0 j=(H0 j:Nat))(tZ: ∀j,j<64→A1 j=(K0 j:Nat))(hl:n0+n1+n2+n3+n4+n5+n6+300≤140737488355328):
  ar adE 61 [.pointer (some ⟨b,0,none⟩),vl.v] [i_ b vh vk,bQ vh 8 A0,bQ vk 64 A1,au true 23 1 vl.v 7 [w0.v,w1.v,w2.v,w3.v,w4.v,w5.v,w6.v],al false w0 n0 T0,al false w1 n1 T1,al false w2 n2 T2,al false w3 n3 T3,al false w4 n4 T4,al false w5 n5 T5,al false w6 n6 T6] fun r hs=> ∃o:V1,r=o.v∧hs=[au true 23 1 vl.v 7 [w0.v,w1.v,w2.v,w3.v,w4.v,w5.v,w6.v],al false w0 n0 T0,al false w1 n1 T1,al false w2 n2 T2,al false w3 n3 T3,al false w4 n4 T4,al false w5 n5 T5,al false w6 n6 T6,al true o 32 (gF (n0+n1+n2+n3+n4+n5+n6) M)]:=by
 refine ar.post (p:=fun r hs=> ∃o:V1,r=o.v∧hs[3]? =some (au true 23 1 vl.v 7 [w0.v,w1.v,w2.v,w3.v,w4.v,w5.v,w6.v])∧hs[4]? =some (al false w0 n0 T0)∧hs[5]? =some (al false w1 n1 T1)∧hs[6]? =some (al false w2 n2 T2)∧hs[7]? =some (al false w3 n3 T3)∧hs[8]? =some (al false w4 n4 T4)∧hs[9]? =some (al false w5 n5 T5)∧hs[10]? =some (al false w6 n6 T6)∧hs[15]? =some (al true o 32 (gF (n0+n1+n2+n3+n4+n5+n6) M))) ?_ ?_;rotate_left
 ·rintro r hs ⟨o,rfl,g0,g1,g2,g3,g4,g5,g6,g7,g8⟩;refine⟨_,bU.idx [3,4,5,6,7,8,9,10,15] (by decide) ?_,o,rfl,rfl⟩;intro m u hu
  match m,hu with
  | 0,hu=>cases hu;exact⟨3,rfl,g0⟩
  | 1,hu=>cases hu;exact⟨4,rfl,g1⟩
  | 2,hu=>cases hu;exact⟨5,rfl,g2⟩
  | 3,hu=>cases hu;exact⟨6,rfl,g3⟩
  | 4,hu=>cases hu;exact⟨7,rfl,g4⟩
  | 5,hu=>cases hu;exact⟨8,rfl,g5⟩
  | 6,hu=>cases hu;exact⟨9,rfl,g6⟩
  | 7,hu=>cases hu;exact⟨10,rfl,g7⟩
  | 8,hu=>cases hu;exact⟨15,rfl,g8⟩
  | m+9,hu=>simp at hu
 refine I7 _ (n0:Int) (n1:Int) (n2:Int) (n3:Int) (n4:Int) (n5:Int) (n6:Int) A0 A1 (fun j=>(T0 j:Nat)) (fun j=>(T1 j:Nat)) (fun j=>(T2 j:Nat)) (fun j=>(T3 j:Nat)) (fun j=>(T4 j:Nat)) (fun j=>(T5 j:Nat)) (fun j=>(T6 j:Nat)) vh vk vl w0 w1 w2 w3 w4 w5 w6 b ?_;unfold z9;have hS:=Ix hM (n0+n1+n2+n3+n4+n5+n6);obtain⟨N,hN⟩: ∃N,N=n0+n1+n2+n3+n4+n5+n6:=⟨_,rfl⟩;rw [←hN]at hS ⊢;have hNl:N+300≤140737488355328:=by omega
 have C9: ∀j,j<N→cM N M j=M j:=fun j hj=>by unfold cM;rw [if_pos hj]
 have hq:lE N=64*((N+8)/64+1):=rfl;refine⟨by omega,fun _=>⟨by omega,fun _=>?_⟩⟩;intro u0;refine⟨fun e=> ∃q r:Nat,64*q+r=n0∧e.i=[(r:Int)]∧(∀j,j<r→(e.a.getD 0 fun _=>0) j=(cM N M (64*q+j):Nat))∧∀j,j<8→(e.a.getD 1 fun _=>0) j=(rz (cM N M) q j:Nat),fun e=>(e.i.getD 0 0:Int).toNat,?_,?_⟩
 ·refine⟨u0,_,_,_,rfl,fun _ _=>rfl,rfl,rfl,fun _ _=>rfl,0,n0,by omega,rfl,fun j hj=>?_,fun j hj=>?_⟩
  ·simp only [ah];rw [C9 _ (by omega),Cs j hj]
  ·simp only [ah,adx];exact s6 j hj
 rintro z0 x B0 C0 ⟨q,r,B9,hx,hB,hH⟩;simp only [adF,and_true]at hx;subst hx;simp only [ah,adx]at hB hH;refine⟨by omega,fun _=>⟨fun ig=>?_,fun bP=>?_⟩⟩
 ·refine⟨_,du (B:=[au true 5 1 z0.v r (aK r [aJ .u8 1 B0])]) b vh vk (aI 1 z0.v 0 64 none) C0 A1 K0 (rz (cM N M) q) (fun i=>cM N M (64*q+i)) hH (lv _ q) tZ (fun j=>hS _) (lx (by omega) hB),?_⟩;rintro x hs ⟨C,rfl,rfl,hC⟩;refine⟨C,rfl,rfl,by omega,fun _=>⟨by omega,fun _=>?_⟩⟩;intro u;refine⟨u,_,_,_,rfl,fun _ _=>rfl,rfl,rfl,fun _ _=>rfl,⟨q+1,r - 64,by omega,congrArg (fun z:Int=>[z]) (by omega),fun j hj=>?_,fun j hj=>?_⟩,?_⟩
  ·simp only [ah];unfold aE;rw [hB _ (by omega)];congr 2;omega
  ·simp only [ah,adx];exact hC j hj
  ·simp only [ah];omega
 refine⟨by omega,fun _=>⟨by omega,fun _=>?_⟩⟩;intro u1;refine⟨fun e=> ∃q r:Nat,64*q+r=n0+n1∧e.i=[(r:Int)]∧(∀j,j<r→(e.a.getD 0 fun _=>0) j=(cM N M (64*q+j):Nat))∧∀j,j<8→(e.a.getD 1 fun _=>0) j=(rz (cM N M) q j:Nat),fun e=>(e.i.getD 0 0:Int).toNat,?_,?_⟩
 ·refine⟨u1,_,_,_,rfl,fun _ _=>rfl,rfl,rfl,fun _ _=>rfl,q,r+n1,by omega,by rw [adH],fun j hj=>?_,fun j hj=>?_⟩
  ·simp only [ah];have tr:ag (r:Int)=r:=rfl;have tn:ag (n1:Int)=n1:=rfl;rw [tr,tn];unfold aA;by_cases c:j<r
   ·rw [if_neg (by omega)];exact hB j c
   ·rw [if_pos (by omega)];show((T1 (j - r):Nat):Int)=_;rw [Ct _ (by omega),C9 _ (by omega)];congr 2;omega
  ·simp only [ah,adx];exact hH j hj
 clear hB hH B9 bP;rintro z1 x B1 C1 ⟨q,r,B9,hx,hB,hH⟩;simp only [adF,and_true]at hx;subst hx;simp only [ah,adx]at hB hH;refine⟨by omega,fun _=>⟨fun ig=>?_,fun bP=>?_⟩⟩
 ·refine⟨_,du (B:=[au true 5 1 z1.v r (aK r [aJ .u8 1 B1])]) b vh vk (aI 1 z1.v 0 64 none) C1 A1 K0 (rz (cM N M) q) (fun i=>cM N M (64*q+i)) hH (lv _ q) tZ (fun j=>hS _) (lx (by omega) hB),?_⟩;rintro x hs ⟨C,rfl,rfl,hC⟩;refine⟨C,rfl,rfl,by omega,fun _=>⟨by omega,fun _=>?_⟩⟩;intro u;refine⟨u,_,_,_,rfl,fun _ _=>rfl,rfl,rfl,fun _ _=>rfl,⟨q+1,r - 64,by omega,congrArg (fun z:Int=>[z]) (by omega),fun j hj=>?_,fun j hj=>?_⟩,?_⟩
  ·simp only [ah];unfold aE;rw [hB _ (by omega)];congr 2;omega
  ·simp only [ah,adx];exact hC j hj
  ·simp only [ah];omega
 refine⟨by omega,fun _=>⟨by omega,fun _=>?_⟩⟩;intro u2;refine⟨fun e=> ∃q r:Nat,64*q+r=n0+n1+n2∧e.i=[(r:Int)]∧(∀j,j<r→(e.a.getD 0 fun _=>0) j=(cM N M (64*q+j):Nat))∧∀j,j<8→(e.a.getD 1 fun _=>0) j=(rz (cM N M) q j:Nat),fun e=>(e.i.getD 0 0:Int).toNat,?_,?_⟩
 ·refine⟨u2,_,_,_,rfl,fun _ _=>rfl,rfl,rfl,fun _ _=>rfl,q,r+n2,by omega,by rw [adH],fun j hj=>?_,fun j hj=>?_⟩
  ·simp only [ah];have tr:ag (r:Int)=r:=rfl;have tn:ag (n2:Int)=n2:=rfl;rw [tr,tn];unfold aA;by_cases c:j<r
   ·rw [if_neg (by omega)];exact hB j c
   ·rw [if_pos (by omega)];show((T2 (j - r):Nat):Int)=_;rw [MZ _ (by omega),C9 _ (by omega)];congr 2;omega
  ·simp only [ah,adx];exact hH j hj
 clear hB hH B9 bP;rintro z2 x B2 C2 ⟨q,r,B9,hx,hB,hH⟩;simp only [adF,and_true]at hx;subst hx;simp only [ah,adx]at hB hH;refine⟨by omega,fun _=>⟨fun ig=>?_,fun bP=>?_⟩⟩
 ·refine⟨_,du (B:=[au true 5 1 z2.v r (aK r [aJ .u8 1 B2])]) b vh vk (aI 1 z2.v 0 64 none) C2 A1 K0 (rz (cM N M) q) (fun i=>cM N M (64*q+i)) hH (lv _ q) tZ (fun j=>hS _) (lx (by omega) hB),?_⟩;rintro x hs ⟨C,rfl,rfl,hC⟩;refine⟨C,rfl,rfl,by omega,fun _=>⟨by omega,fun _=>?_⟩⟩;intro u;refine⟨u,_,_,_,rfl,fun _ _=>rfl,rfl,rfl,fun _ _=>rfl,⟨q+1,r - 64,by omega,congrArg (fun z:Int=>[z]) (by omega),fun j hj=>?_,fun j hj=>?_⟩,?_⟩
  ·simp only [ah];unfold aE;rw [hB _ (by omega)];congr 2;omega
  ·simp only [ah,adx];exact hC j hj
  ·simp only [ah];omega
 refine⟨by omega,fun _=>⟨by omega,fun _=>?_⟩⟩;intro u3;refine⟨fun e=> ∃q r:Nat,64*q+r=n0+n1+n2+n3∧e.i=[(r:Int)]∧(∀j,j<r→(e.a.getD 0 fun _=>0) j=(cM N M (64*q+j):Nat))∧∀j,j<8→(e.a.getD 1 fun _=>0) j=(rz (cM N M) q j:Nat),fun e=>(e.i.getD 0 0:Int).toNat,?_,?_⟩
 ·refine⟨u3,_,_,_,rfl,fun _ _=>rfl,rfl,rfl,fun _ _=>rfl,q,r+n3,by omega,by rw [adH],fun j hj=>?_,fun j hj=>?_⟩
  ·simp only [ah];have tr:ag (r:Int)=r:=rfl;have tn:ag (n3:Int)=n3:=rfl;rw [tr,tn];unfold aA;by_cases c:j<r
   ·rw [if_neg (by omega)];exact hB j c
   ·rw [if_pos (by omega)];show((T3 (j - r):Nat):Int)=_;rw [M0 _ (by omega),C9 _ (by omega)];congr 2;omega
  ·simp only [ah,adx];exact hH j hj
 clear hB hH B9 bP;rintro z3 x B3 C3 ⟨q,r,B9,hx,hB,hH⟩;simp only [adF,and_true]at hx;subst hx;simp only [ah,adx]at hB hH;refine⟨by omega,fun _=>⟨fun ig=>?_,fun bP=>?_⟩⟩
 ·refine⟨_,du (B:=[au true 5 1 z3.v r (aK r [aJ .u8 1 B3])]) b vh vk (aI 1 z3.v 0 64 none) C3 A1 K0 (rz (cM N M) q) (fun i=>cM N M (64*q+i)) hH (lv _ q) tZ (fun j=>hS _) (lx (by omega) hB),?_⟩;rintro x hs ⟨C,rfl,rfl,hC⟩;refine⟨C,rfl,rfl,by omega,fun _=>⟨by omega,fun _=>?_⟩⟩;intro u;refine⟨u,_,_,_,rfl,fun _ _=>rfl,rfl,rfl,fun _ _=>rfl,⟨q+1,r - 64,by omega,congrArg (fun z:Int=>[z]) (by omega),fun j hj=>?_,fun j hj=>?_⟩,?_⟩
  ·simp only [ah];unfold aE;rw [hB _ (by omega)];congr 2;omega
  ·simp only [ah,adx];exact hC j hj
  ·simp only [ah];omega
 refine⟨by omega,fun _=>⟨by omega,fun _=>?_⟩⟩;intro u4;refine⟨fun e=> ∃q r:Nat,64*q+r=n0+n1+n2+n3+n4∧e.i=[(r:Int)]∧(∀j,j<r→(e.a.getD 0 fun _=>0) j=(cM N M (64*q+j):Nat))∧∀j,j<8→(e.a.getD 1 fun _=>0) j=(rz (cM N M) q j:Nat),fun e=>(e.i.getD 0 0:Int).toNat,?_,?_⟩
 ·refine⟨u4,_,_,_,rfl,fun _ _=>rfl,rfl,rfl,fun _ _=>rfl,q,r+n4,by omega,by rw [adH],fun j hj=>?_,fun j hj=>?_⟩
  ·simp only [ah];have tr:ag (r:Int)=r:=rfl;have tn:ag (n4:Int)=n4:=rfl;rw [tr,tn];unfold aA;by_cases c:j<r
   ·rw [if_neg (by omega)];exact hB j c
   ·rw [if_pos (by omega)];show((T4 (j - r):Nat):Int)=_;rw [M1 _ (by omega),C9 _ (by omega)];congr 2;omega
  ·simp only [ah,adx];exact hH j hj
 clear hB hH B9 bP;rintro z4 x B4 C4 ⟨q,r,B9,hx,hB,hH⟩;simp only [adF,and_true]at hx;subst hx;simp only [ah,adx]at hB hH;refine⟨by omega,fun _=>⟨fun ig=>?_,fun bP=>?_⟩⟩
 ·refine⟨_,du (B:=[au true 5 1 z4.v r (aK r [aJ .u8 1 B4])]) b vh vk (aI 1 z4.v 0 64 none) C4 A1 K0 (rz (cM N M) q) (fun i=>cM N M (64*q+i)) hH (lv _ q) tZ (fun j=>hS _) (lx (by omega) hB),?_⟩;rintro x hs ⟨C,rfl,rfl,hC⟩;refine⟨C,rfl,rfl,by omega,fun _=>⟨by omega,fun _=>?_⟩⟩;intro u;refine⟨u,_,_,_,rfl,fun _ _=>rfl,rfl,rfl,fun _ _=>rfl,⟨q+1,r - 64,by omega,congrArg (fun z:Int=>[z]) (by omega),fun j hj=>?_,fun j hj=>?_⟩,?_⟩
  ·simp only [ah];unfold aE;rw [hB _ (by omega)];congr 2;omega
  ·simp only [ah,adx];exact hC j hj
  ·simp only [ah];omega
 refine⟨by omega,fun _=>⟨by omega,fun _=>?_⟩⟩;intro u5;refine⟨fun e=> ∃q r:Nat,64*q+r=n0+n1+n2+n3+n4+n5∧e.i=[(r:Int)]∧(∀j,j<r→(e.a.getD 0 fun _=>0) j=(cM N M (64*q+j):Nat))∧∀j,j<8→(e.a.getD 1 fun _=>0) j=(rz (cM N M) q j:Nat),fun e=>(e.i.getD 0 0:Int).toNat,?_,?_⟩
 ·refine⟨u5,_,_,_,rfl,fun _ _=>rfl,rfl,rfl,fun _ _=>rfl,q,r+n5,by omega,by rw [adH],fun j hj=>?_,fun j hj=>?_⟩
  ·simp only [ah];have tr:ag (r:Int)=r:=rfl;have tn:ag (n5:Int)=n5:=rfl;rw [tr,tn];unfold aA;by_cases c:j<r
   ·rw [if_neg (by omega)];exact hB j c
   ·rw [if_pos (by omega)];show((T5 (j - r):Nat):Int)=_;rw [M3 _ (by omega),C9 _ (by omega)];congr 2;omega
  ·simp only [ah,adx];exact hH j hj
 clear hB hH B9 bP;rintro z5 x B5 C5 ⟨q,r,B9,hx,hB,hH⟩;simp only [adF,and_true]at hx;subst hx;simp only [ah,adx]at hB hH;refine⟨by omega,fun _=>⟨fun ig=>?_,fun bP=>?_⟩⟩
 ·refine⟨_,du (B:=[au true 5 1 z5.v r (aK r [aJ .u8 1 B5])]) b vh vk (aI 1 z5.v 0 64 none) C5 A1 K0 (rz (cM N M) q) (fun i=>cM N M (64*q+i)) hH (lv _ q) tZ (fun j=>hS _) (lx (by omega) hB),?_⟩;rintro x hs ⟨C,rfl,rfl,hC⟩;refine⟨C,rfl,rfl,by omega,fun _=>⟨by omega,fun _=>?_⟩⟩;intro u;refine⟨u,_,_,_,rfl,fun _ _=>rfl,rfl,rfl,fun _ _=>rfl,⟨q+1,r - 64,by omega,congrArg (fun z:Int=>[z]) (by omega),fun j hj=>?_,fun j hj=>?_⟩,?_⟩
  ·simp only [ah];unfold aE;rw [hB _ (by omega)];congr 2;omega
  ·simp only [ah,adx];exact hC j hj
  ·simp only [ah];omega
 refine⟨by omega,fun _=>⟨by omega,fun _=>?_⟩⟩;intro u6;refine⟨fun e=> ∃q r:Nat,64*q+r=n0+n1+n2+n3+n4+n5+n6∧e.i=[(r:Int)]∧(∀j,j<r→(e.a.getD 0 fun _=>0) j=(cM N M (64*q+j):Nat))∧∀j,j<8→(e.a.getD 1 fun _=>0) j=(rz (cM N M) q j:Nat),fun e=>(e.i.getD 0 0:Int).toNat,?_,?_⟩
 ·refine⟨u6,_,_,_,rfl,fun _ _=>rfl,rfl,rfl,fun _ _=>rfl,q,r+n6,by omega,by rw [adH],fun j hj=>?_,fun j hj=>?_⟩
  ·simp only [ah];have tr:ag (r:Int)=r:=rfl;have tn:ag (n6:Int)=n6:=rfl;rw [tr,tn];unfold aA;by_cases c:j<r
   ·rw [if_neg (by omega)];exact hB j c
   ·rw [if_pos (by omega)];show((T6 (j - r):Nat):Int)=_;rw [SR _ (by omega),C9 _ (by omega)];congr 2;omega
  ·simp only [ah,adx];exact hH j hj
 clear hB hH B9 bP;rintro z6 x B6 C6 ⟨q,r,B9,hx,hB,hH⟩;simp only [adF,and_true]at hx;subst hx;simp only [ah,adx]at hB hH;refine⟨by omega,fun _=>⟨fun ig=>?_,fun bP=>?_⟩⟩
 ·refine⟨_,du (B:=[au true 5 1 z6.v r (aK r [aJ .u8 1 B6])]) b vh vk (aI 1 z6.v 0 64 none) C6 A1 K0 (rz (cM N M) q) (fun i=>cM N M (64*q+i)) hH (lv _ q) tZ (fun j=>hS _) (lx (by omega) hB),?_⟩;rintro x hs ⟨C,rfl,rfl,hC⟩;refine⟨C,rfl,rfl,by omega,fun _=>⟨by omega,fun _=>?_⟩⟩;intro u;refine⟨u,_,_,_,rfl,fun _ _=>rfl,rfl,rfl,fun _ _=>rfl,⟨q+1,r - 64,by omega,congrArg (fun z:Int=>[z]) (by omega),fun j hj=>?_,fun j hj=>?_⟩,?_⟩
  ·simp only [ah];unfold aE;rw [hB _ (by omega)];congr 2;omega
  ·simp only [ah,adx];exact hC j hj
  ·simp only [ah];omega
 intro b2;refine⟨by omega,fun _=>?_⟩;intro u8;have hqN:N=64*q+r:=by omega
 have Yb:r<64:=by omega
 have tr:ag (r:Int)=r:=rfl;rw [tr];refine⟨fun e=> ∃k:Nat,r+1≤k∧k+8+64*q≤lE N∧e.i=[(k:Int)]∧∀j,j<k→(e.a.getD 0 fun _=>0) j=(cM N M (64*q+j):Nat),fun e=>((200:Int) - e.i.getD 0 0).toNat,⟨u8,_,_,rfl,rfl,rfl,fun _ _=>rfl,r+1,by omega,by omega,by rw [adH];rfl,fun j hj=>?_⟩,?_⟩
 ·simp only [ah];unfold aA;by_cases c:j<r
  ·rw [if_neg (by omega)];exact hB j c
  ·have:j=r:=by omega
   subst this;rw [if_pos (by omega),Nat.sub_self];unfold cM;rw [if_neg (by omega),if_pos (by omega)];rfl
 rintro z8 x D ⟨k,Is,yx,hx,hD⟩;simp only [adF,and_true]at hx;subst hx;simp only [ah]at hD;have px:ak .rem .i64 ((k:Int)+8) 64=(((k+8)%64:Nat):Int):=by rw [show(k:Int)+8=((k+8:Nat):Int) by omega];rfl
 rw [px];have tk:ag (k:Int)=k:=rfl;rw [tk]
 iterate 3 refine⟨by omega,fun _=>?_⟩
 refine⟨fun dR=>?_,fun heq=>?_⟩
 ·intro b3;refine⟨by omega,fun _=>?_⟩;intro u;refine⟨u,_,_,rfl,rfl,rfl,fun _ _=>rfl,⟨k+1,by omega,by omega,by rw [adH];rfl,fun j hj=>?_⟩,?_⟩
  ·simp only [ah];unfold ao;split
   ·rename_i c;unfold cM;rw [if_neg (by omega),if_neg (by omega),if_pos (by omega)];rfl
   ·exact hD j (by omega)
  ·simp only [ah];omega
 have hk:k+8+64*q=lE N:=by omega
 intro u9;refine⟨by omega,fun _=>?_⟩;intro GY;have hw:ae .u64 ((ae .u64 ((ae .u64 ((ae .u64 ((ae .u64 ((ae .u64 ((ae .u64 (ae .u64 (n0:Int)))+(ae .u64 (n1:Int))))+(ae .u64 (n2:Int))))+(ae .u64 (n3:Int))))+(ae .u64 (n4:Int))))+(ae .u64 (n5:Int))))+(ae .u64 (n6:Int)))=(N:Int):=by
  rw [hN];simp only [Co (show n0<2^64 by omega)];rw [Co (show n1<2^64 by omega),←adH,Co (show n0+n1<2^64 by omega)];rw [Co (show n2<2^64 by omega),←adH,Co (show n0+n1+n2<2^64 by omega)];rw [Co (show n3<2^64 by omega),←adH,Co (show n0+n1+n2+n3<2^64 by omega)];rw [Co (show n4<2^64 by omega),←adH,Co (show n0+n1+n2+n3+n4<2^64 by omega)];rw [Co (show n5<2^64 by omega),←adH,Co (show n0+n1+n2+n3+n4+n5<2^64 by omega)];rw [Co (show n6<2^64 by omega),←adH,Co (show n0+n1+n2+n3+n4+n5+n6<2^64 by omega)]
 rw [hw];refine⟨fun e=> ∃p:Nat,64*p≤lE N∧e.i=[((lE N - 64*p:Nat):Int)]∧(∀j,j<lE N - 64*p→(e.a.getD 0 fun _=>0) j=(cM N M (64*p+j):Nat))∧∀j,j<8→(e.a.getD 1 fun _=>0) j=(rz (cM N M) p j:Nat),fun e=>(e.i.getD 0 0:Int).toNat,⟨GY,_,_,_,rfl,fun _ _=>rfl,rfl,rfl,fun _ _=>rfl,q,by omega,congrArg (fun z:Int=>[z]) (by omega),fun j hj=>?_,fun j hj=>?_⟩,?_⟩
 ·simp only [ah];unfold aA;by_cases c:j<k
  ·rw [if_neg (by omega)];exact hD j c
  ·rw [if_pos (by omega),MY (by omega) _ (by omega)];unfold cM;rw [if_neg (by omega),if_neg (by omega),if_neg (by omega)];congr 2;omega
 ·simp only [ah,adx];exact hH j hj
 rintro yy x E F ⟨p,hp,hx,hE,hF⟩;simp only [adF,and_true]at hx;subst hx;simp only [ah,adx]at hE hF;have tp:ag ((lE N - 64*p:Nat):Int)=lE N - 64*p:=rfl;dsimp only [bo,bi,bn];rw [tp];refine⟨by omega,fun _=>⟨fun mg=>?_,fun oF=>?_⟩⟩
 ·refine⟨by omega,fun _=>?_⟩;refine⟨_,du (B:=[au true 5 1 yy.v (lE N - 64*p) (aK (lE N - 64*p) [aJ .u8 1 E])]) b vh vk (aI 1 yy.v 0 64 none) F A1 K0 (rz (cM N M) p) (fun i=>cM N M (64*p+i)) hF (lv _ p) tZ (fun j=>hS _) (lx (by omega) hE),?_⟩;rintro x hs ⟨C,rfl,rfl,hC⟩;refine⟨C,rfl,rfl,by omega,fun _=>⟨by omega,fun _=>?_⟩⟩;intro u;refine⟨u,_,_,_,rfl,fun _ _=>rfl,rfl,rfl,fun _ _=>rfl,⟨p+1,by omega,congrArg (fun z:Int=>[z]) (by omega),fun j hj=>?_,fun j hj=>?_⟩,?_⟩
  ·simp only [ah];unfold aE;rw [hE _ (by omega)];congr 2;omega
  ·simp only [ah,adx];exact hC j hj
  ·simp only [ah];omega
 ·have P_:p=(N+8)/64+1:=by omega
  intros
  refine⟨_,rfl,rfl,rfl,rfl,rfl,rfl,rfl,rfl,rfl,congrArg some ?_⟩;unfold al gF;rw [cm (n:=32) (g:=fun j=>((Sh.bytesOf (rz (cM N M) ((N+8)/64+1)) j:Nat):Int))];intro j hj;rw [←P_];exact Rf hF j hj
end Go.RX.Fm
