/- CallMedia. -/
import Derived.Test.YtphemenngjkfbaaM47
open List renaming map_congr_left → ag4, mem_map → ag9, mem_range → agJ
namespace Go.RX.Md
open Go.RX Go.Proofs Go.RX.Sh
theorem z0:0≤(0:Int)∧(0:Int)<256:=by decide
theorem z1:0≤(1:Int)∧(1:Int)<256:=by decide
theorem acC:0≤(128:Int)∧(128:Int)<256:=by decide
theorem QJ{A:Nat→Int}(h: ∀j,j<32→0≤A j∧A j<256)(j:Nat)(hj:j<64):
  0≤(aG (aj (aj (aj (aj (aj (aj (aj (aj (aj (aj (aj (aj (aj (aj (aj (aj (aj (aj (aj (aj (aj (aj (aj (aG A 32 1 (aj (fun _=>0) 0 128)) 33 0) 34 0) 35 0) 36 0) 37 0) 38 0) 39 0) 40 0) 41 0) 42 0) 43 0) 44 0) 45 0) 46 0) 47 0) 48 0) 49 0) 50 0) 51 0) 52 0) 53 0) 54 0) 55 0) 56 8 (aj (aj (aj (aj (aj (aj (aj (aj (fun _=>0) 7 0) 6 1) 5 0) 4 0) 3 0) 2 0) 1 0) 0 0)) j∧(aG (aj (aj (aj (aj (aj (aj (aj (aj (aj (aj (aj (aj (aj (aj (aj (aj (aj (aj (aj (aj (aj (aj (aj (aG A 32 1 (aj (fun _=>0) 0 128)) 33 0) 34 0) 35 0) 36 0) 37 0) 38 0) 39 0) 40 0) 41 0) 42 0) 43 0) 44 0) 45 0) 46 0) 47 0) 48 0) 49 0) 50 0) 51 0) 52 0) 53 0) 54 0) 55 0) 56 8 (aj (aj (aj (aj (aj (aj (aj (aj (fun _=>0) 7 0) 6 1) 5 0) 4 0) 3 0) 2 0) 1 0) 0 0)) j<256:=by
 have:j=0∨j=1∨j=2∨j=3∨j=4∨j=5∨j=6∨j=7∨j=8∨j=9∨j=10∨j=11∨j=12∨j=13∨j=14∨j=15∨j=16∨j=17∨j=18∨j=19∨j=20∨j=21∨j=22∨j=23∨j=24∨j=25∨j=26∨j=27∨j=28∨j=29∨j=30∨j=31∨j=32∨j=33∨j=34∨j=35∨j=36∨j=37∨j=38∨j=39∨j=40∨j=41∨j=42∨j=43∨j=44∨j=45∨j=46∨j=47∨j=48∨j=49∨j=50∨j=51∨j=52∨j=53∨j=54∨j=55∨j=56∨j=57∨j=58∨j=59∨j=60∨j=61∨j=62∨j=63:=by omega
 clear hj;rcases this with rfl | rfl | rfl | rfl | rfl | rfl | rfl | rfl | rfl | rfl | rfl | rfl | rfl | rfl | rfl | rfl | rfl | rfl | rfl | rfl | rfl | rfl | rfl | rfl | rfl | rfl | rfl | rfl | rfl | rfl | rfl | rfl | rfl | rfl | rfl | rfl | rfl | rfl | rfl | rfl | rfl | rfl | rfl | rfl | rfl | rfl | rfl | rfl | rfl | rfl | rfl | rfl | rfl | rfl | rfl | rfl | rfl | rfl | rfl | rfl | rfl | rfl | rfl | rfl
 ·exact h _ (by decide)
 ·exact h _ (by decide)
 ·exact h _ (by decide)
 ·exact h _ (by decide)
 ·exact h _ (by decide)
 ·exact h _ (by decide)
 ·exact h _ (by decide)
 ·exact h _ (by decide)
 ·exact h _ (by decide)
 ·exact h _ (by decide)
 ·exact h _ (by decide)
 ·exact h _ (by decide)
 ·exact h _ (by decide)
 ·exact h _ (by decide)
 ·exact h _ (by decide)
 ·exact h _ (by decide)
 ·exact h _ (by decide)
 ·exact h _ (by decide)
 ·exact h _ (by decide)
 ·exact h _ (by decide)
 ·exact h _ (by decide)
 ·exact h _ (by decide)
 ·exact h _ (by decide)
 ·exact h _ (by decide)
 ·exact h _ (by decide)
 ·exact h _ (by decide)
 ·exact h _ (by decide)
 ·exact h _ (by decide)
 ·exact h _ (by decide)
 ·exact h _ (by decide)
 ·exact h _ (by decide)
 ·exact h _ (by decide)
 ·exact acC
 ·exact z0
 ·exact z0
 ·exact z0
 ·exact z0
 ·exact z0
 ·exact z0
 ·exact z0
 ·exact z0
 ·exact z0
 ·exact z0
 ·exact z0
 ·exact z0
 ·exact z0
 ·exact z0
 ·exact z0
 ·exact z0
 ·exact z0
 ·exact z0
 ·exact z0
 ·exact z0
 ·exact z0
 ·exact z0
 ·exact z0
 ·exact z0
 ·exact z0
 ·exact z0
 ·exact z0
 ·exact z0
 ·exact z0
 ·exact z1
 ·exact z0
theorem JW{A:Nat→Int}(h: ∀j,j<32→0≤A j∧A j<256): ∃B:Nat→Nat,(∀j,j<64→(aG (aj (aj (aj (aj (aj (aj (aj (aj (aj (aj (aj (aj (aj (aj (aj (aj (aj (aj (aj (aj (aj (aj (aj (aG A 32 1 (aj (fun _=>0) 0 128)) 33 0) 34 0) 35 0) 36 0) 37 0) 38 0) 39 0) 40 0) 41 0) 42 0) 43 0) 44 0) 45 0) 46 0) 47 0) 48 0) 49 0) 50 0) 51 0) 52 0) 53 0) 54 0) 55 0) 56 8 (aj (aj (aj (aj (aj (aj (aj (aj (fun _=>0) 7 0) 6 1) 5 0) 4 0) 3 0) 2 0) 1 0) 0 0)) j=((B j:Nat):Int))∧∀j,j<64→B j<256:=
 ⟨fun j=>((aG (aj (aj (aj (aj (aj (aj (aj (aj (aj (aj (aj (aj (aj (aj (aj (aj (aj (aj (aj (aj (aj (aj (aj (aG A 32 1 (aj (fun _=>0) 0 128)) 33 0) 34 0) 35 0) 36 0) 37 0) 38 0) 39 0) 40 0) 41 0) 42 0) 43 0) 44 0) 45 0) 46 0) 47 0) 48 0) 49 0) 50 0) 51 0) 52 0) 53 0) 54 0) 55 0) 56 8 (aj (aj (aj (aj (aj (aj (aj (aj (fun _=>0) 7 0) 6 1) 5 0) 4 0) 3 0) 2 0) 1 0) 0 0)) j).toNat,fun j hj=>(Int.toNat_of_nonneg (QJ h j hj).1).symm,fun j hj=>(Int.toNat_lt (QJ h j hj).1).2 (QJ h j hj).2⟩
end Go.RX.Md

namespace Go.RX.Du
open Go.RX Go.Proofs Go.Cp Go.RX.Sh Go.RX.Cs Go.RX.Ct Go.RX.Cu Go.RX.Cw Go.RX.Cy Go.RX.Cz Go.RX.Da
set_option maxRecDepth 100000
abbrev fn(k:LI)(j:Nat):Int:=k.getD j 0
theorem byte{A:Nat→Int}{n:Nat}(h:yv (aN A 0 n)){j:Nat}(hj:j<n):0≤A j∧A j<256:=by
 refine h _ ?_;rw [aN,ag9];exact⟨j,agJ.2 hj,by rw [Nat.zero_add]⟩
noncomputable def QL(k:LI):LI:=@dite _ (∀j,j<32→0≤fn k j∧fn k j<256) (Classical.propDecidable _) (fun h=>aN (fun j=>((Sh.bytesOf (comp K0 H0 (Md.JW h).choose) j:Nat):Int)) 0 32) fun _=>[]
theorem WD{A B:Nat→Int}{n:Nat}(h: ∀j,j<n→A j=B j):ak .u8 n A=ak .u8 n B:=ag4 fun j hj=>by rw [h j (agJ.1 hj)]
theorem WE:KX QL:=by
 intro b1 m hk b3;obtain⟨k,dg⟩: ∃k,k=aN m.dM 0 32:=⟨_,rfl⟩;have hm: ∀j,j<32→m.dM j=fn k j:=fun j hj=>by rw [dg];exact(sA hj).symm
 have h: ∀j,j<32→0≤fn k j∧fn k j<256:=fun j hj=>by rw [←hm j hj];exact byte hk hj
 have e:cD b1 m=cD b1 {m with dM:=fn k}:=by unfold cD;rw [WD hm]
 have W:QL (aN m.dM 0 32)=aN (fun j=>((Sh.bytesOf (comp K0 H0 (Md.JW h).choose) j:Nat):Int)) 0 32:=by
  rw [←dg];exact dif_pos h
 rw [e,W];obtain⟨s1,s2⟩:=(Md.JW h).choose_spec;refine Dt.Tv _ m.a m.d m.st m.out m.ac m.pa m.pd m.lO m.early m.aP m.bF m.since m.heard m.bO m.bA m.dv m.id m.own m.off (fn k) b3 b1 m.dead ?_;unfold Dt.Lf
 intros
 refine⟨_,v_,?_⟩;rintro r hs ⟨b,vh,vk,A,B,rfl,rfl,hA,hB⟩;refine⟨b,vh,vk,A,B,rfl,rfl,?_⟩
 intros
 refine⟨_,rO b vh vk _ 64 A B _ K0 H0 _ (by decide) hA UA hB s1 s2,?_⟩;rintro r hs ⟨A5,rfl,rfl,hA5⟩;refine⟨A5,rfl,rfl,?_⟩
 intros
 exact⟨_,rfl,rfl,ag4 fun j hj=>by rw [Nat.zero_add];exact UB hA5 j (agJ.1 hj)⟩
noncomputable def QM(c:Nat):LI:=@dite _ (∃l:LI,l.length=16∧bG l=c) (Classical.propDecidable _) (fun h=>h.choose) fun _=>[]
theorem Tz(A:Nat→Int):QM (bD A)=aN A 0 16:=by
 have h: ∃l:LI,l.length=16∧bG l=bD A:=⟨aN A 0 16,jE _ _ _,rfl⟩;unfold QM;rw [dif_pos h];exact jw (by rw [h.choose_spec.1,jE]) h.choose_spec.2
abbrev nat(k:LI)(j:Nat):Nat:=(fn k j).toNat
theorem xB{A:Nat→Int}{n:Nat}(h:yv (aN A 0 n))(j:Nat)(hj:j<n):A j=((nat (aN A 0 n) j:Nat):Int)∧nat (aN A 0 n) j<256:=by
 have:=byte h hj;unfold nat fn;rw [sA hj];omega
noncomputable def wa(c:Nat)(k k':LI)(p q:Nat):LI:=aN (fun j=>((Nm (msg (nat (QM c)) (nat k) (nat k') (p/2) (p%2) (q/2) (q%2)) j:Nat):Int)) 0 32
theorem QN:zq wa:=by
 intro I O N a d a' d' hI hO hN ha hd vq hd';obtain⟨p,rfl⟩:=Int.eq_ofNat_of_zero_le ha.1;obtain⟨q,rfl⟩:=Int.eq_ofNat_of_zero_le hd.1;obtain⟨p',rfl⟩:=Int.eq_ofNat_of_zero_le vq.1;obtain⟨q',rfl⟩:=Int.eq_ofNat_of_zero_le hd'.1;refine(Hy I O N (nat (aN I 0 16)) (nat (aN O 0 32)) (nat (aN N 0 32)) p q p' q' (fun j hj=>(xB hI j hj).1) (fun j hj=>(xB hO j hj).1) (fun j hj=>(xB hN j hj).1) (fun j hj=>(xB hI j hj).2) (fun j hj=>(xB hO j hj).2) (fun j hj=>(xB hN j hj).2) (by omega) (by omega) (by omega) (by omega)).post fun rv hs ⟨A,h1,h2,h3⟩=>⟨hs,aB.refl _,A,h1,h2,?_⟩
 unfold wa;rw [Tz,show fH (p:Int) q/2=p by unfold fH;omega,show fH (p:Int) q%2=q by unfold fH;omega,show fH (p':Int) q'/2=p' by unfold fH;omega,show fH (p':Int) q'%2=q' by unfold fH;omega];exact ag4 fun j hj=>by rw [Nat.zero_add];exact h3 j (agJ.1 hj)
theorem ok(c:Nat)(k k':LI)(a d:Nat):yv (wa c k k' a d):=by
 intro v hv;simp only [wa,aN,ag9]at hv;obtain⟨t, -,rfl⟩:=hv;have:=QI (comp K0 (comp K0 H0 (msg (nat (QM c)) (nat k) (nat k') (a/2) (a%2) (d/2) (d%2))) (fun i=>msg (nat (QM c)) (nat k) (nat k') (a/2) (a%2) (d/2) (d%2) (64+i))) (0+t);unfold Nm;omega
theorem acD:xq wa QL:=⟨QN,WE,ok⟩
end Go.RX.Du
