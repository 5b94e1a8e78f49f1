/- Sums. -/
import Derived.Test.YtmgbbbmdbpbeeaaGreatFmF
import Derived.Test.YtmgbbbmdbpbeeaaGreatFnL
open Go.IntKind renaming wrap → ae
open Go.Proofs.Tryz renaming prog → ae0
open Int renaming natCast_add → afy, toNat → ag, toNat_natCast → afe
open List renaming getD_cons_succ → aeW, getD_cons_zero → ah
open List.cons renaming injEq → ae8
open Nat renaming lt_of_lt_of_le → ae_, mod_eq_of_lt → afp, mod_lt → afI
namespace Go.RX.Fm
open Go Go.RX Go.Proofs Go.RX.Sh Go.RX.Fg Go.RX.Fj Go.RX.Fk
theorem TJ{x:Int}(h0:0≤x)(h1:x≤64):ae .i64 (ak .quo .i64 x 4)=((x.toNat/4:Nat):Int):=by
 obtain⟨i,rfl⟩:=Int.eq_ofNat_of_zero_le h0;show ae .i64 (Int.tdiv (i:Int) 4)=_;have:Int.tdiv (i:Int) 4=((i/4:Nat):Int):=rfl;rw [this,afe];simp [ae,IntKind.signed,IntKind.bits];omega
abbrev qR(b:Nat)(vh vk:V1):HP:=ax b true [vh.v,vk.v,.int .i64 4,.int .i64 2,.int .i64 13,.int .i64 22,.int .i64 6,.int .i64 11,.int .i64 25,.int .i64 7,.int .i64 18,.int .i64 3,.int .i64 17,.int .i64 19,.int .i64 10]
theorem NU{B:Nat→Nat}{A:Nat→Int}(hB: ∀j,j<64→B j<256){t:Int}(h0:16≤t)(h1:t<64)(hA: ∀j,j<64→A j=((fm B (t.toNat - 16) j:Nat):Int))(j:Nat)(hj:j<64):
  aq A (ag t) (ae .u32 ((ae .u32 ((ae .u32 ((ak .ay .u32 (ak .ay .u32 (ak .bR .u32 (ak .shr .u32 (A (ag (t - 2))) 17) (ak .shl .u32 (A (ag (t - 2))) 15)) (ak .bR .u32 (ak .shr .u32 (A (ag (t - 2))) 19) (ak .shl .u32 (A (ag (t - 2))) 13))) (ak .shr .u32 (A (ag (t - 2))) 10))+(A (ag (t - 7)))))+(ak .ay .u32 (ak .ay .u32 (ak .bR .u32 (ak .shr .u32 (A (ag (t - 15))) 7) (ak .shl .u32 (A (ag (t - 15))) 25)) (ak .bR .u32 (ak .shr .u32 (A (ag (t - 15))) 18) (ak .shl .u32 (A (ag (t - 15))) 14))) (ak .shr .u32 (A (ag (t - 15))) 3))))+(A (ag (t - 16))))) j
   =((fm B (t.toNat - 16+1) j:Nat):Int):=by
 have hl:=Gr hB (t.toNat - 16);obtain⟨n,hn⟩: ∃n,n=t.toNat - 16:=⟨_,rfl⟩;rw [←hn]at hA hl ⊢;rw [fm];unfold aq;dsimp only;by_cases GQ:j=t.toNat
 ·rw [if_pos GQ,if_pos (by omega)];rw [hA (ag (t - 2)) (by omega),hA (ag (t - 7)) (by omega),hA (ag (t - 15)) (by omega),hA (ag (t - 16)) (by omega)];rw [show ag (t - 2)=n+14 by omega,show ag (t - 7)=n+9 by omega,show ag (t - 15)=n+1 by omega,show ag (t - 16)=n by omega];rw [Za (hl _),Y_ (hl _),pG,pG,pG];congr 1;omega
 ·rw [if_neg GQ,if_neg (by omega)];exact hA j hj
theorem Rh{v:Nat→Nat}(hv: ∀j,j<8→v j<2^32)(k w:Nat):
  ae .u32 ((ae .u32 ((ae .u32 ((ae .u32 (((v 7:Nat):Int)+(ak .ay .u32 (ak .ay .u32 (ak .bR .u32 (ak .shr .u32 ((v 4:Nat):Int) 6) (ak .shl .u32 ((v 4:Nat):Int) 26)) (ak .bR .u32 (ak .shr .u32 ((v 4:Nat):Int) 11) (ak .shl .u32 ((v 4:Nat):Int) 21))) (ak .bR .u32 (ak .shr .u32 ((v 4:Nat):Int) 25) (ak .shl .u32 ((v 4:Nat):Int) 7)))))+(ak .ay .u32 (ak .aP .u32 ((v 4:Nat):Int) ((v 5:Nat):Int)) (ak .aP .u32 (ak .ay .u32 4294967295 ((v 4:Nat):Int)) ((v 6:Nat):Int)))))+((k:Nat):Int)))+((w:Nat):Int))=((r8 v k w:Nat):Int):=by
 rw [Zc (hv 4 (by omega)),Zd (hv 4 (by omega)) (hv 5 (by omega)) (hv 6 (by omega)),pG,pG,pG,pG];unfold r8;congr 1;omega
theorem NV{v:Nat→Nat}(hv: ∀j,j<8→v j<2^32):
  ae .u32 ((ak .ay .u32 (ak .ay .u32 (ak .bR .u32 (ak .shr .u32 ((v 0:Nat):Int) 2) (ak .shl .u32 ((v 0:Nat):Int) 30)) (ak .bR .u32 (ak .shr .u32 ((v 0:Nat):Int) 13) (ak .shl .u32 ((v 0:Nat):Int) 19))) (ak .bR .u32 (ak .shr .u32 ((v 0:Nat):Int) 22) (ak .shl .u32 ((v 0:Nat):Int) 10)))+(ak .ay .u32 (ak .ay .u32 (ak .aP .u32 ((v 0:Nat):Int) ((v 1:Nat):Int)) (ak .aP .u32 ((v 0:Nat):Int) ((v 2:Nat):Int))) (ak .aP .u32 ((v 1:Nat):Int) ((v 2:Nat):Int))))=(((S0 (v 0)+RD (v 0) (v 1) (v 2))%2^32:Nat):Int):=by
 rw [Zb (hv 0 (by omega)),We (hv 0 (by omega)) (hv 1 (by omega)) (hv 2 (by omega)),pG]
def eight(v:Nat→Nat)(a:Nat):List Int:=[((v 0:Nat):Int),((v 1:Nat):Int),((v 2:Nat):Int),((v 3:Nat):Int),((v 4:Nat):Int),((v 5:Nat):Int),((v 6:Nat):Int),((v 7:Nat):Int),(a:Int)]
theorem GR(v:Nat→Nat)(k w a:Nat):[(((r8 v k w+(S0 (v 0)+RD (v 0) (v 1) (v 2))%2^32)%2^32:Nat):Int),((v 0:Nat):Int),((v 1:Nat):Int),((v 2:Nat):Int),(((v 3+r8 v k w)%2^32:Nat):Int),((v 4:Nat):Int),((v 5:Nat):Int),((v 6:Nat):Int),(a:Int)+1]=eight (Sh.step v k w) (a+1):=by
 unfold eight;rw [LZ,L0,ke v k w (j:=1) (by decide) (by decide) (by decide),ke v k w (j:=2) (by decide) (by decide) (by decide),ke v k w (j:=3) (by decide) (by decide) (by decide),ke v k w (j:=5) (by decide) (by decide) (by decide),
  ke v k w (j:=6) (by decide) (by decide) (by decide),ke v k w (j:=7) (by decide) (by decide) (by decide),afy a 1]
 simp only [Int.natCast_one]
theorem B9{K H B R:Nat→Nat}(hR:R=QE K (fm B 48) H 64)(j:Nat):comp K H B j=(H j+R j)%2^32:=by
 unfold comp;rw [hR]
abbrev dM(v:V1)(n:Nat)(A:Nat→Int):HP:=aE true 225 1 v.v n (aQ n [aO .u32 1 A])
theorem pO(b:Nat)(vh vk vb:V1)(A0 A1 A2:Nat→Int)(K H B:Nat→Nat)(tu: ∀j,j<8→A0 j=(H j:Nat))(hH: ∀j,j<8→H j<2^32)
  (qP: ∀j,j<64→A1 j=(K j:Nat)) (vj: ∀j,j<64→A2 j=(B j:Nat)) (hB: ∀j,j<64→B j<256):
  aw ae0 151 [.pointer (some ⟨b,0,none⟩),vb.v] [qR b vh vk,dM vh 8 A0,dM vk 64 A1,aE false 5 1 vb.v 64 (aQ 64 [aO .u8 1 A2])]
   (fun r hs=> ∃A:Nat→Int,r= .tuple #[]∧hs=[qR b vh vk,dM vh 8 A,dM vk 64 A1]∧∀j,j<8→A j=((comp K H B j:Nat):Int)):=by
 refine Lw _ A0 A1 A2 vh vk vb b ?_;unfold oW;intro v3;refine⟨fun e=> ∃a:Nat,a≤64∧e.i=[(a:Int)]∧∀j,j<64→e.a.getD 0 (fun _=>0) j=((fill B a j:Nat):Int),fun e=>(64 - e.i.getD 0 0).toNat,⟨0,fun _=>0,rfl,fun _ _=>rfl,0,by omega,rfl,fun j _=>rfl⟩,?_⟩;rintro x1 A3 ⟨a,ha,hx,hA⟩;simp only [ae8,and_true]at hx;subst hx;simp only [ah]at hA;have hq:=TJ (x:=(a:Int)) (by omega) (by omega);refine⟨fun bU=>⟨by rw [hq];omega,fun _=>⟨by rw [hq];omega,fun _=>⟨by omega,fun _=>⟨by omega,fun _=>⟨by omega,fun _=>?_⟩⟩⟩⟩⟩,fun iH=>?_⟩
 ·refine⟨(a:Int)+1,_,rfl,fun _ _=>rfl,⟨a+1,by omega,rfl,fun j hj=>?_⟩,?_⟩
  ·simp only [ah];rw [hq,afe,afe,fill];unfold aq;dsimp only;by_cases GQ:j=a/4
   ·rw [if_pos GQ,if_pos GQ,hA _ (by omega),vj a (by omega),wrap_u32];have hb:=hB a (by omega);rw [afp (by omega),show ak .shl .u32 ((fill B a (a/4):Nat):Int) 8=_ from R2 (fill B a (a/4)) 8 (by decide),Wa (afI _ (Nat.two_pow_pos 32)) (by omega)]
   ·rw [if_neg GQ,if_neg GQ];exact hA j hj
  ·simp only [ah];omega
 have GU:a=64:=by omega
 subst GU;refine⟨fun e=> ∃a:Nat,16≤a∧a≤64∧e.i=[(a:Int)]∧∀j,j<64→e.a.getD 0 (fun _=>0) j=((fm B (a - 16) j:Nat):Int),fun e=>(64 - e.i.getD 0 0).toNat,⟨16,A3,rfl,fun _ _=>rfl,16,by omega,by omega,rfl,fun j hj=>?_⟩,?_⟩
 ·simp only [ah];rw [hA j hj,Nb hB]
 rintro x2 A4 ⟨a,Ub,ha,hx,FH⟩;simp only [ae8,and_true]at hx;subst hx;simp only [ah]at FH;refine⟨fun bU=>⟨by omega,fun _=>⟨by omega,fun _=>⟨by omega,fun _=>⟨by omega,fun _=>⟨by omega,fun _=>⟨by omega,fun _=>⟨by omega,fun _=>⟨by omega,fun _=>⟨by omega,fun _=>⟨by omega,fun _=>⟨by omega,fun _=>⟨by omega,fun _=>⟨by omega,fun _=>⟨by omega,fun _=>⟨by omega,fun _=>⟨by omega,fun _=>fun b1 b2=>⟨by omega,fun _=>⟨by omega,fun _=>⟨by omega,fun _=>?_⟩⟩⟩⟩⟩⟩⟩⟩⟩⟩⟩⟩⟩⟩⟩⟩⟩⟩⟩,fun iH=>fun b1=>?_⟩
 ·refine⟨(a:Int)+1,_,rfl,fun _ _=>rfl,⟨a+1,by omega,by omega,rfl,fun j hj=>?_⟩,?_⟩
  ·simp only [ah];have:=NU hB (t:=(a:Int)) (by omega) (by omega) (A:=A4) (by rw [afe];exact FH) j hj;rw [this,afe,show a - 16+1=a+1 - 16 by omega]
  ·simp only [ah];omega
 have GU:a=64:=by omega
 subst GU;have hv:=Gs (K:=K) (W:=fm B 48) hH;refine⟨fun e=> ∃a:Nat,a≤64∧e.i=eight (QE K (fm B 48) H a) a,fun e=>(64 - e.i.getD 8 0).toNat,⟨_,_,_,_,_,_,_,_,0,rfl,(tu 0 (by omega)).symm,(tu 1 (by omega)).symm,(tu 2 (by omega)).symm,(tu 3 (by omega)).symm,(tu 4 (by omega)).symm,(tu 5 (by omega)).symm,(tu 6 (by omega)).symm,(tu 7 (by omega)).symm,0,by omega,rfl⟩,?_⟩;rintro x3 x4 x5 x6 x7 x8 x9 dS dQ ⟨a,ha,hx⟩;simp only [eight,ae8,and_true]at hx;obtain⟨rfl,rfl,rfl,rfl,rfl,rfl,rfl,rfl,rfl⟩:=hx;refine⟨fun bU=>⟨by omega,fun _=>fun b2 b3=>⟨by omega,fun _=>⟨by omega,fun _=>?_⟩⟩⟩,fun iH=>?_⟩
 ·refine⟨_,_,_,_,_,_,_,_,(a:Int)+1,rfl,rfl,rfl,rfl,rfl,rfl,rfl,rfl,rfl,⟨a+1,by omega,?_⟩,?_⟩
  ·have hk:A1 (ag (a:Int))=((K a:Nat):Int):=by rw [afe];exact qP a (by omega)
   have hw:A4 (ag (a:Int))=((fm B 48 a:Nat):Int):=by rw [afe];exact FH a (by omega)
   rw [hk,hw,Rh (hv a),NV (hv a),pG,pG];exact GR _ _ _ _
  ·simp only [ah,aeW];omega
 have GU:a=64:=by omega
 subst GU;obtain⟨R,hR⟩: ∃R:Nat→Nat,R=QE K (fm B 48) H 64:=⟨_,rfl⟩;have hc:=B9 hR;rw [←hR];refine⟨fun e=> ∃a:Nat,a≤8∧e.i=[(a:Int)]∧(∀j,j<8→e.a.getD 1 (fun _=>0) j=((R j:Nat):Int))∧∀j,j<8→e.a.getD 0 (fun _=>0) j=(((if j<a then comp K H B j else H j):Nat):Int),fun e=>(8 - e.i.getD 0 0).toNat,
  ⟨0,A0,_,rfl,fun _ _=>rfl,fun _ _=>rfl,0,by omega,rfl,fun j hj=>?_,fun j hj=>?_⟩,?_⟩
 ·simp only [ah,aeW];unfold aq
  match j,hj with
  | 0,_=>rfl
  | 1,_=>rfl
  | 2,_=>rfl
  | 3,_=>rfl
  | 4,_=>rfl
  | 5,_=>rfl
  | 6,_=>rfl
  | 7,_=>rfl
 ·simp only [ah];rw [if_neg (by omega)];exact tu j hj
 rintro dK A5 A6 ⟨a,ha,hx,h6,h5⟩;simp only [ae8,and_true]at hx;subst hx;simp only [ah,aeW]at h6 h5;refine⟨fun bU=>⟨by omega,fun _=>⟨by omega,fun _=>⟨by omega,fun _=>?_⟩⟩⟩,fun iH=>?_⟩
 ·refine⟨(a:Int)+1,_,A6,rfl,fun _ _=>rfl,fun _ _=>rfl,⟨a+1,by omega,rfl,h6,fun j hj=>?_⟩,?_⟩
  ·simp only [ah];rw [afe];unfold aq;by_cases Ud:j=a
   ·subst Ud;rw [if_pos rfl,if_pos (by omega),h5 j hj,h6 j hj,if_neg (by omega),pG,hc]
   ·rw [if_neg Ud,h5 j hj];by_cases h:j<a
    ·rw [if_pos h,if_pos (by omega)]
    ·rw [if_neg h,if_neg (by omega)]
  ·simp only [ah];omega
 have ZH:a=8:=by omega
 subst ZH;refine⟨A5,rfl,rfl,fun j hj=>?_⟩;rw [h5 j hj,if_pos hj]
theorem IV{f:Nat→Int}{i j:Nat}{x:Int}(h:j≠i):aq f i x j=f j:=by
 unfold aq;rw [if_neg h]
theorem Sc{A:Nat→Int}{C:Nat→Nat}(h: ∀j,j<8→A j=((C j:Nat):Int))(j:Nat)(hj:j<32):
  (aq (aq (aq (aq (aq (aq (aq (aq (aq (aq (aq (aq (aq (aq (aq (aq (aq (aq (aq (aq (aq (aq (aq (aq (aq (aq (aq (aq (aq (aq (aq (aq (fun _=>0) 0 (ae .u8 (ak .shr .u32 (A 0) 24))) 1 (ae .u8 (ak .shr .u32 (A 0) 16))) 2 (ae .u8 (ak .shr .u32 (A 0) 8))) 3 (ae .u8 (ak .shr .u32 (A 0) 0))) 4 (ae .u8 (ak .shr .u32 (A 1) 24))) 5 (ae .u8 (ak .shr .u32 (A 1) 16))) 6 (ae .u8 (ak .shr .u32 (A 1) 8))) 7 (ae .u8 (ak .shr .u32 (A 1) 0))) 8 (ae .u8 (ak .shr .u32 (A 2) 24))) 9 (ae .u8 (ak .shr .u32 (A 2) 16))) 10 (ae .u8 (ak .shr .u32 (A 2) 8))) 11 (ae .u8 (ak .shr .u32 (A 2) 0))) 12 (ae .u8 (ak .shr .u32 (A 3) 24))) 13 (ae .u8 (ak .shr .u32 (A 3) 16))) 14 (ae .u8 (ak .shr .u32 (A 3) 8))) 15 (ae .u8 (ak .shr .u32 (A 3) 0))) 16 (ae .u8 (ak .shr .u32 (A 4) 24))) 17 (ae .u8 (ak .shr .u32 (A 4) 16))) 18 (ae .u8 (ak .shr .u32 (A 4) 8))) 19 (ae .u8 (ak .shr .u32 (A 4) 0))) 20 (ae .u8 (ak .shr .u32 (A 5) 24))) 21 (ae .u8 (ak .shr .u32 (A 5) 16))) 22 (ae .u8 (ak .shr .u32 (A 5) 8))) 23 (ae .u8 (ak .shr .u32 (A 5) 0))) 24 (ae .u8 (ak .shr .u32 (A 6) 24))) 25 (ae .u8 (ak .shr .u32 (A 6) 16))) 26 (ae .u8 (ak .shr .u32 (A 6) 8))) 27 (ae .u8 (ak .shr .u32 (A 6) 0))) 28 (ae .u8 (ak .shr .u32 (A 7) 24))) 29 (ae .u8 (ak .shr .u32 (A 7) 16))) 30 (ae .u8 (ak .shr .u32 (A 7) 8))) 31 (ae .u8 (ak .shr .u32 (A 7) 0))) j=((Sh.bytesOf C j:Nat):Int):=by
 rw [h 0 (by omega),h 1 (by omega),h 2 (by omega),h 3 (by omega),h 4 (by omega),h 5 (by omega),h 6 (by omega),h 7 (by omega)];have:j=0∨j=1∨j=2∨j=3∨j=4∨j=5∨j=6∨j=7∨j=8∨j=9∨j=10∨j=11∨j=12∨j=13∨j=14∨j=15∨j=16∨j=17∨j=18∨j=19∨j=20∨j=21∨j=22∨j=23∨j=24∨j=25∨j=26∨j=27∨j=28∨j=29∨j=30∨j=31:=by omega
 clear hj h;rcases this with rfl | rfl | rfl | rfl | rfl | rfl | rfl | rfl | rfl | rfl | rfl | rfl | rfl | rfl | rfl | rfl | rfl | rfl | rfl | rfl | rfl | rfl | rfl | rfl | rfl | rfl | rfl | rfl | rfl | rfl | rfl | rfl
 ·exact bT (C 0) 24 (by decide)
 ·exact bT (C 0) 16 (by decide)
 ·exact bT (C 0) 8 (by decide)
 ·exact bT (C 0) 0 (by decide)
 ·exact bT (C 1) 24 (by decide)
 ·exact bT (C 1) 16 (by decide)
 ·exact bT (C 1) 8 (by decide)
 ·exact bT (C 1) 0 (by decide)
 ·exact bT (C 2) 24 (by decide)
 ·exact bT (C 2) 16 (by decide)
 ·exact bT (C 2) 8 (by decide)
 ·exact bT (C 2) 0 (by decide)
 ·exact bT (C 3) 24 (by decide)
 ·exact bT (C 3) 16 (by decide)
 ·exact bT (C 3) 8 (by decide)
 ·exact bT (C 3) 0 (by decide)
 ·exact bT (C 4) 24 (by decide)
 ·exact bT (C 4) 16 (by decide)
 ·exact bT (C 4) 8 (by decide)
 ·exact bT (C 4) 0 (by decide)
 ·exact bT (C 5) 24 (by decide)
 ·exact bT (C 5) 16 (by decide)
 ·exact bT (C 5) 8 (by decide)
 ·exact bT (C 5) 0 (by decide)
 ·exact bT (C 6) 24 (by decide)
 ·exact bT (C 6) 16 (by decide)
 ·exact bT (C 6) 8 (by decide)
 ·exact bT (C 6) 0 (by decide)
 ·exact bT (C 7) 24 (by decide)
 ·exact bT (C 7) 16 (by decide)
 ·exact bT (C 7) 8 (by decide)
 ·exact bT (C 7) 0 (by decide)
end Go.RX.Fm

namespace Go.RX.Fn
open Go Go.RX Go.Proofs Go.RX.Sh Go.RX.Fg Go.RX.Fj Go.RX.Fk
open Go.RX.Fm (eight B9 IV)
theorem yu{m:Nat}(h:m<2^64):ae .u64 (ak .quo .u64 (m:Int) 256)=((m/256:Nat):Int):=by
 have e:ak .quo .u64 (m:Int) 256=((m/256:Nat):Int):=rfl;rw [e,wrap64 (Nat.lt_of_le_of_lt (Nat.div_le_self _ _) h)]
theorem vu(m:Nat):ae .u8 (ak .rem .u64 (m:Int) 256)=((m%256:Nat):Int):=by
 have h:ak .rem .u64 (m:Int) 256=((m%256:Nat):Int):=rfl;rw [h,wrap_u8];congr 1;omega
theorem Ri{m:Nat}(hm:m<2^64)(j:Nat)(hj:j<8):
  (aq (aq (aq (aq (aq (aq (aq (aq (fun _=>0) 7 (ae .u8 (ak .rem .u64 (m:Int) 256))) 6 (ae .u8 (ak .rem .u64 (ae .u64 (ak .quo .u64 (m:Int) 256)) 256))) 5 (ae .u8 (ak .rem .u64 (ae .u64 (ak .quo .u64 (ae .u64 (ak .quo .u64 (m:Int) 256)) 256)) 256))) 4 (ae .u8 (ak .rem .u64 (ae .u64 (ak .quo .u64 (ae .u64 (ak .quo .u64 (ae .u64 (ak .quo .u64 (m:Int) 256)) 256)) 256)) 256))) 3 (ae .u8 (ak .rem .u64 (ae .u64 (ak .quo .u64 (ae .u64 (ak .quo .u64 (ae .u64 (ak .quo .u64 (ae .u64 (ak .quo .u64 (m:Int) 256)) 256)) 256)) 256)) 256))) 2 (ae .u8 (ak .rem .u64 (ae .u64 (ak .quo .u64 (ae .u64 (ak .quo .u64 (ae .u64 (ak .quo .u64 (ae .u64 (ak .quo .u64 (ae .u64 (ak .quo .u64 (m:Int) 256)) 256)) 256)) 256)) 256)) 256))) 1 (ae .u8 (ak .rem .u64 (ae .u64 (ak .quo .u64 (ae .u64 (ak .quo .u64 (ae .u64 (ak .quo .u64 (ae .u64 (ak .quo .u64 (ae .u64 (ak .quo .u64 (ae .u64 (ak .quo .u64 (m:Int) 256)) 256)) 256)) 256)) 256)) 256)) 256))) 0 (ae .u8 (ak .rem .u64 (ae .u64 (ak .quo .u64 (ae .u64 (ak .quo .u64 (ae .u64 (ak .quo .u64 (ae .u64 (ak .quo .u64 (ae .u64 (ak .quo .u64 (ae .u64 (ak .quo .u64 (ae .u64 (ak .quo .u64 (m:Int) 256)) 256)) 256)) 256)) 256)) 256)) 256)) 256))) j=(cJ m j:Nat):=by
 have l: ∀{k:Nat},k<2^64→k/256<2^64:=fun h=>Nat.lt_of_le_of_lt (Nat.div_le_self _ _) h
 rw [yu hm,yu (l hm),yu (l (l hm)),yu (l (l (l hm))),yu (l (l (l (l hm)))),yu (l (l (l (l (l hm))))),yu (l (l (l (l (l (l hm))))))];rw [vu,vu,vu,vu,vu,vu,vu,vu];unfold cJ;have d: ∀k:Nat,m/256^k/256=m/256^(k+1):=fun k=>by rw [Nat.div_div_eq_div_mul,←Nat.pow_succ]
 have e1:m/256=m/256^1:=by rw [Nat.pow_one]
 rw [e1,d,d,d,d,d,d]
 match j,hj with
 | 0,_=>rfl
 | 1,_=>rfl
 | 2,_=>rfl
 | 3,_=>rfl
 | 4,_=>rfl
 | 5,_=>rfl
 | 6,_=>rfl
 | 7,_=>simp [aq]
 | j+8,h=>exact absurd h (by omega)
theorem kK(v0:V1)(T:Nat→Nat)(n:Nat)(hl:n+300≤140737488355328):aw ae0 159 [v0.v,.int .i64 32] [aj false v0 n T] fun r hs=> ∃o:V1,r=o.v∧hs=[aj true o (gF n) (cC n T)]:=by
 refine aw.post (p:=fun r hs=> ∃o:V1,r=o.v∧hs[0]? =some (aj true o (gF n) (cC n T))) ?_ ?_;rotate_left
 ·rintro r hs ⟨o,rfl,h⟩;exact⟨_,bX.lY 0 h,o,rfl,rfl⟩
 refine FU _ (n:Int) (fun j=>(T j:Nat)) v0 ?_;unfold w_;have hL:gF n=64*((n+8)/64+1):=rfl;intro v1
 iterate 3 refine⟨by omega,fun _=>?_⟩
 intro v2 b0;refine⟨by omega,fun _=>?_⟩;intro v3;refine⟨fun e=> ∃k:Nat,n+1≤k∧k+8≤gF n∧e.i=[(k:Int)]∧∀j,j<k→(e.a.getD 0 fun _=>0) j=(cC n T j:Nat),fun e=>((gF n:Int) - e.i.getD 0 0).toNat,⟨v3,_,_,rfl,rfl,rfl,fun _ _=>rfl,n+1,by omega,by omega,by rw [afy];rfl,fun j hj=>?_⟩,?_⟩
 ·simp only [ah];rw [afe];unfold aq cC;split
  ·rename_i c;rw [if_neg (by omega)];rfl
  ·rw [if_pos (by omega)]
 rintro v4 x1 A1 ⟨k,IC,Bb,hx,hA⟩;simp only [ae8,and_true]at hx;subst hx;simp only [ah]at hA;have hr:ak .rem .i64 (k:Int) 64=((k%64:Nat):Int):=rfl;have tk:ag (k:Int)=k:=rfl;rw [hr,tk];refine⟨by omega,fun _=>⟨fun eZ=>?_,fun heq=>?_⟩⟩
 ·intro b1;refine⟨by omega,fun _=>?_⟩;intro v5;refine⟨v5,_,_,rfl,rfl,rfl,fun _ _=>rfl,⟨k+1,by omega,by omega,by rw [afy];rfl,fun j hj=>?_⟩,?_⟩
  ·simp only [ah];unfold aq;split
   ·unfold cC;rw [if_neg (by omega),if_neg (by omega),if_pos (by omega)];rfl
   ·exact hA j (by omega)
  ·simp only [ah];omega
 ·have qZ:k=gF n - 8:=by omega
  have hm:ae .u64 (8*(ae .u64 (n:Int)))=((n*8:Nat):Int):=by
   rw [wrap64 (by omega),show 8*(n:Int)=((n*8:Nat):Int) by omega,wrap64 (by omega)]
  rw [hm];intro v5;refine⟨by omega,fun _=>⟨by omega,fun _=>?_⟩⟩;intro v6;refine⟨v6,rfl,congrArg some ?_⟩;have t8:ag ((k:Int)+8)=gF n:=by omega
  dsimp only [bo,bi,bn];rw [t8];unfold aj;refine congrArg (aE true 5 1 v6.v (gF n)) (aW fun j hj=>?_);unfold aI;by_cases c:j<k
  ·rw [if_neg (by omega)];exact hA j c
  ·rw [if_pos (by omega),Ri (by omega) _ (by omega)];unfold cC;rw [if_neg (by omega),if_neg (by omega),if_neg (by omega),qZ]
theorem Ue(n:Nat):(256:Int)*(n:Int)=((n*256:Nat):Int):=by omega
theorem Uf{a b c d:Nat}(ha:a<256)(hb:b<256)(hc:c<256)(hd:d<256):
  ae .u64 ((ae .u64 (256*(ae .u64 ((ae .u64 (256*(ae .u64 ((ae .u64 (256*(ae .u64 (ae .u64 (a:Int)))))+(ae .u64 (b:Int))))))+(ae .u64 (c:Int))))))+(ae .u64 (d:Int)))=((((a*256+b)*256+c)*256+d:Nat):Int):=by
 rw [wrap64 (n:=a) (by omega),wrap64 (n:=a) (by omega),Ue a,wrap64 (n:=a*256) (by omega),wrap64 (n:=b) (by omega),lM (by omega),Ue,wrap64 (n:=(a*256+b)*256) (by omega),wrap64 (n:=c) (by omega),lM (by omega),Ue,wrap64 (n:=((a*256+b)*256+c)*256) (by omega),wrap64 (n:=d) (by omega),lM (by omega)]
theorem WW{a b c d:Nat}(ha:a<2^32)(hb:b<2^32)(hc:c<2^32)(hd:d<2^32):
  ak .rem .u64 (ae .u64 ((ae .u64 ((ae .u64 ((a:Int)+(b:Int)))+(c:Int)))+(d:Int))) 4294967296=(((a+b+c+d)%2^32:Nat):Int):=by
 rw [lM (by omega),lM (by omega),lM (by omega),Ah]
theorem vw{a b:Nat}(ha:a<2^32)(hb:b<2^32):ak .rem .u64 (ae .u64 ((a:Int)+(b:Int))) 4294967296=(((a+b)%2^32:Nat):Int):=by
 rw [lM (by omega),Ah]
theorem Ug(a:Nat):ak .rem .u64 (a:Int) 256=((a%256:Nat):Int):=Bc a 256
theorem IW{w n:Nat}(hw:w<2^32):ae .u8 (ak .rem .u64 (ae .u64 (ak .quo .u64 (w:Int) ((2^n:Nat):Int))) 256)=((w/2^n%256:Nat):Int):=by
 rw [HI hw,Ug,wrap_u8,afp (ae_ (afI _ (by decide)) (by decide))]
theorem o24{w:Nat}(hw:w<2^32):ae .u8 (ak .rem .u64 (ae .u64 (ak .quo .u64 (w:Int) 16777216)) 256)=((w/2^24%256:Nat):Int):=IW (n:=24) hw
theorem o16{w:Nat}(hw:w<2^32):ae .u8 (ak .rem .u64 (ae .u64 (ak .quo .u64 (w:Int) 65536)) 256)=((w/2^16%256:Nat):Int):=IW (n:=16) hw
theorem o8{w:Nat}(hw:w<2^32):ae .u8 (ak .rem .u64 (ae .u64 (ak .quo .u64 (w:Int) 256)) 256)=((w/2^8%256:Nat):Int):=IW (n:=8) hw
theorem o0{w:Nat}(hw:w<2^32):ae .u8 (ak .rem .u64 (ae .u64 (ak .quo .u64 (w:Int) 1)) 256)=((w/2^0%256:Nat):Int):=IW (n:=0) hw
theorem QR{t:Nat}(ht:t≤64):ae .i64 (ak .quo .i64 ((t:Int)*32) 8)=((4*t:Nat):Int):=by
 have h1:ak .quo .i64 ((t:Int)*32) 8=((t*32/8:Nat):Int):=by
  show Int.tdiv ((t:Int)*32) 8=_;rw [show(t:Int)*32=((t*32:Nat):Int) by omega];rfl
 rw [h1,show t*32/8=4*t by omega];simp [ae,IntKind.signed,IntKind.bits];omega
set_option maxHeartbeats 1000000 in
theorem GV(v0:V1)(T:Nat→Nat)(hT: ∀j,T j<256)(n:Nat)(hl:n+300≤140737488355328):aw ae0 145 [v0.v,.int .i64 32] [aj false v0 n T] fun r hs=> ∃o:V1,r=o.v∧hs=[aj true o 32 (eV n T)]:=by
 refine Pz _ (n:Int) (fun j=>(T j:Nat)) v0 ?_;unfold HG;intro b0;refine⟨_,Bd,?_⟩;rintro r hs ⟨v1,A1,rfl,rfl,hC⟩;refine⟨v1,A1,rfl,rfl,?_⟩;refine⟨_,bj 32 rfl rfl (by decide),?_⟩;rintro r hs ⟨rfl,rfl⟩;refine⟨rfl,rfl,?_⟩;refine⟨_,bJ (B:=[aj false v0 n T]) (kK v0 T n hl) (pK (au.get 0 rfl)),?_⟩;rintro r hs ⟨v2,rfl,rfl⟩;have hM:=BW hT n;have hS:eV n T=Sh.bytesOf (oe (cC n T) ((n+8)/64+1)):=rfl;have hL:gF n=64*((n+8)/64+1):=rfl;obtain⟨A2,vj⟩: ∃A2:Nat→Int,A2=fun j=>((cC n T j:Nat):Int):=⟨_,rfl⟩
 refine⟨v2,(gF n:Int),A2,rfl,by rw [vj];rfl,?_⟩;have hP: ∀j,j<gF n→A2 j=((cC n T j:Nat):Int):=fun j _=>by rw [vj]
 rw [hS];clear vj hS;generalize cC n T=M at*;refine⟨fun e=> ∃q:Nat,64*q≤gF n∧e.i=eight (oe M q) (64*q),fun e=>((gF n:Int) - e.i.getD 8 0).toNat,⟨_,_,_,_,_,_,_,_,_,rfl,rfl,rfl,rfl,rfl,rfl,rfl,rfl,rfl,0,by omega,?_⟩,?_⟩
 ·show _=eight H0 0;decide+kernel
 rintro x0 x1 x2 x3 x4 x5 x6 x7 x8 ⟨q,hq,hx⟩;simp only [eight,ae8,and_true]at hx;obtain⟨rfl,rfl,rfl,rfl,rfl,rfl,rfl,rfl,rfl⟩:=hx;have hH:=kA M q;refine⟨by omega,fun _=>⟨fun bU=>?_,fun iH=>?_⟩⟩
 ·have hB: ∀j,j<64→(fun i=>M (64*q+i)) j<256:=fun j _=>hM _
  obtain⟨B,ZI⟩: ∃B:Nat→Nat,B=fun i=>M (64*q+i):=⟨_,rfl⟩
  rw [←ZI]at hB;have X0: ∀j,j<64→A2 (64*q+j)=((B j:Nat):Int):=fun j hj=>by rw [hP _ (by omega),ZI]
  refine⟨fun e=> ∃t:Nat,t≤16∧e.i=[(t:Int)]∧∀j,j<t→e.a.getD 0 (fun _=>0) j=((word B j:Nat):Int),fun e=>(16 - e.i.getD 0 0).toNat,⟨_,0,fun _=>0,rfl,rfl,rfl,rfl,fun _ _=>rfl,0,by omega,rfl,fun j hj=>absurd hj (by omega)⟩,?_⟩;rintro v4 x9 A3 ⟨t,ht,hx,h3⟩;simp only [ae8,and_true]at hx;subst hx;simp only [ah]at h3;rw [QR (by omega)];refine⟨fun bU=>?_,fun iH=>?_⟩
  ·rw [show ag (((64*q:Nat):Int)+((4*t:Nat):Int))=64*q+4*t by omega,show ag (((64*q:Nat):Int)+((4*t:Nat):Int)+1)=64*q+(4*t+1) by omega,show ag (((64*q:Nat):Int)+((4*t:Nat):Int)+2)=64*q+(4*t+2) by omega,show ag (((64*q:Nat):Int)+((4*t:Nat):Int)+3)=64*q+(4*t+3) by omega];rw [X0 _ (by omega),X0 _ (by omega),X0 _ (by omega),X0 _ (by omega),Uf (hB _ (by omega)) (hB _ (by omega)) (hB _ (by omega)) (hB _ (by omega))];refine⟨by omega,fun _=>?_⟩;refine⟨by omega,fun _=>?_⟩;refine⟨by omega,fun _=>?_⟩;refine⟨by omega,fun _=>?_⟩;refine⟨by omega,fun _=>?_⟩;refine⟨by omega,fun _=>?_⟩;refine⟨by omega,fun _=>?_⟩;refine⟨by omega,fun _=>?_⟩;refine⟨by omega,fun _=>?_⟩;refine⟨by omega,fun _=>?_⟩;refine⟨by omega,fun _=>?_⟩;refine⟨by omega,fun _=>?_⟩;refine⟨by omega,fun _=>?_⟩;refine⟨by omega,fun _=>?_⟩;refine⟨by omega,fun _=>?_⟩;refine⟨by omega,fun _=>?_⟩;refine⟨by omega,fun _=>?_⟩;refine⟨by omega,fun _=>?_⟩;intro b1;refine⟨by omega,fun _=>?_⟩;refine⟨by omega,fun _=>?_⟩;intro v5;refine⟨by omega,fun _=>?_⟩;refine⟨by omega,fun _=>?_⟩;refine⟨_,(t:Int)+1,_,rfl,rfl,rfl,rfl,fun _ _=>rfl,⟨t+1,by omega,rfl,fun j hj=>?_⟩,?_⟩
   ·simp only [ah];rw [afe];by_cases GQ:j=t
    ·subst GQ;unfold aq;rw [if_pos rfl];rfl
    ·rw [IV GQ];exact h3 j (by omega)
   ·simp only [ah];omega
  have ZJ:t=16:=by omega
  subst ZJ;refine⟨fun e=> ∃n:Nat,n≤48∧e.i=[((n+16:Nat):Int)]∧∀j,j<n+16→e.a.getD 0 (fun _=>0) j=((fm B n j:Nat):Int),fun e=>(64 - e.i.getD 0 0).toNat,⟨_,_,A3,rfl,rfl,rfl,rfl,fun _ _=>rfl,0,by omega,rfl,fun j hj=>?_⟩,?_⟩
  ·simp only [ah];rw [h3 j (by omega)];unfold fm;rw [if_pos (by omega)]
  rintro v5 dS A4 ⟨n,hn,hx,h4⟩;simp only [ae8,and_true]at hx;subst hx;simp only [ah]at h4;have hl:=Gr hB n;refine⟨fun bU=>?_,fun iH=>?_⟩
  ·rw [show ag (((n+16:Nat):Int) - 2)=n+14 by omega,show ag (((n+16:Nat):Int) - 7)=n+9 by omega,show ag (((n+16:Nat):Int) - 15)=n+1 by omega,show ag (((n+16:Nat):Int) - 16)=n by omega];rw [h4 (n+14) (by omega),h4 (n+9) (by omega),h4 (n+1) (by omega),h4 n (by omega)];refine⟨by omega,fun _=>?_⟩;refine⟨by omega,fun _=>?_⟩;refine⟨by omega,fun _=>?_⟩;refine⟨by omega,fun _=>?_⟩;refine⟨by omega,fun _=>?_⟩;refine⟨by omega,fun _=>?_⟩;refine⟨by omega,fun _=>?_⟩;refine⟨by omega,fun _=>?_⟩;refine⟨by omega,fun _=>?_⟩;refine⟨by omega,fun _=>?_⟩;refine⟨by omega,fun _=>?_⟩;refine⟨by omega,fun _=>?_⟩;refine⟨by omega,fun _=>?_⟩;refine⟨by omega,fun _=>?_⟩;refine⟨by omega,fun _=>?_⟩;refine⟨by omega,fun _=>?_⟩;refine⟨_,Dr _ (hl _),?_⟩;rintro r hs ⟨rfl,rfl⟩;refine⟨_,rfl,rfl,?_⟩;refine⟨_,Dq _ (hl _),?_⟩;rintro r hs ⟨rfl,rfl⟩;refine⟨_,rfl,rfl,?_⟩;refine⟨_,bj 32 rfl rfl (by decide),?_⟩;rintro r hs ⟨rfl,rfl⟩;refine⟨rfl,rfl,?_⟩;rw [WW (Wc (hl _)) (hl _) (Wb (hl _)) (hl _)];intro b1;refine⟨by omega,fun _=>?_⟩;refine⟨by omega,fun _=>?_⟩;intro v6;refine⟨by omega,fun _=>?_⟩;refine⟨by omega,fun _=>?_⟩;refine⟨_,((n+16:Nat):Int)+1,_,rfl,rfl,rfl,rfl,fun _ _=>rfl,⟨n+1,by omega,?_,fun j hj=>?_⟩,?_⟩
   ·exact congrArg (fun x=>[x]) (show((n+16:Nat):Int)+1=((n+1+16:Nat):Int) by omega)
   ·simp only [ah];rw [afe,fm];unfold aq;dsimp only;by_cases GQ:j=n+16
    ·rw [if_pos GQ,if_pos GQ]
    ·rw [if_neg GQ,if_neg GQ];exact h4 j (by omega)
   ·simp only [ah];omega
  have ZK:n=48:=by omega
  subst ZK;intro v6 v7;have hv:=Gs (K:=K0) (W:=fm B 48) hH;refine⟨fun e=> ∃a:Nat,a≤64∧e.i=[(a:Int)]∧∀j,j<8→e.a.getD 0 (fun _=>0) j=((QE K0 (fm B 48) (oe M q) a j:Nat):Int),fun e=>(64 - e.i.getD 0 0).toNat,⟨_,0,_,rfl,rfl,rfl,fun _ _=>rfl,0,by omega,rfl,fun j hj=>?_⟩,?_⟩
  ·simp only [ah];unfold aq
   match j,hj with
   | 0,_=>rfl
   | 1,_=>rfl
   | 2,_=>rfl
   | 3,_=>rfl
   | 4,_=>rfl
   | 5,_=>rfl
   | 6,_=>rfl
   | 7,_=>rfl
  rintro v8 dQ A5 ⟨a,ha,hx,h5⟩;simp only [ae8,and_true]at hx;subst hx;simp only [ah]at h5;refine⟨fun bU=>?_,fun iH=>?_⟩
  ·rw [afe,hC a (by omega),h4 a (by omega)];refine⟨by omega,fun _=>?_⟩;refine⟨by omega,fun _=>?_⟩;refine⟨by omega,fun _=>?_⟩;refine⟨_,Js v8 A5 (QE K0 (fm B 48) (oe M q) a) (K0 a) (fm B 48 a) h5 (hv a) (WC a (by omega)) (hl a),?_⟩;rintro r hs ⟨v9,A6,rfl,rfl,h6⟩;refine⟨v9,A6,rfl,rfl,?_⟩;refine⟨by omega,fun _=>?_⟩;refine⟨by omega,fun _=>?_⟩;refine⟨_,(a:Int)+1,A6,rfl,rfl,rfl,fun _ _=>rfl,⟨a+1,by omega,rfl,h6⟩,?_⟩;simp only [ah];omega
  have GU:a=64:=by omega
  subst GU;refine⟨_,bj 32 rfl rfl (by decide),?_⟩;rintro r hs ⟨rfl,rfl⟩;refine⟨rfl,rfl,?_⟩;refine⟨_,bj 32 rfl rfl (by decide),?_⟩;rintro r hs ⟨rfl,rfl⟩;refine⟨rfl,rfl,?_⟩;refine⟨_,bj 32 rfl rfl (by decide),?_⟩;rintro r hs ⟨rfl,rfl⟩;refine⟨rfl,rfl,?_⟩;refine⟨_,bj 32 rfl rfl (by decide),?_⟩;rintro r hs ⟨rfl,rfl⟩;refine⟨rfl,rfl,?_⟩;refine⟨_,bj 32 rfl rfl (by decide),?_⟩;rintro r hs ⟨rfl,rfl⟩;refine⟨rfl,rfl,?_⟩;refine⟨_,bj 32 rfl rfl (by decide),?_⟩;rintro r hs ⟨rfl,rfl⟩;refine⟨rfl,rfl,?_⟩;refine⟨_,bj 32 rfl rfl (by decide),?_⟩;rintro r hs ⟨rfl,rfl⟩;refine⟨rfl,rfl,?_⟩;refine⟨_,bj 32 rfl rfl (by decide),?_⟩;rintro r hs ⟨rfl,rfl⟩;refine⟨rfl,rfl,?_⟩;have B_:=hv 64;obtain⟨R,hR⟩: ∃R:Nat→Nat,R=QE K0 (fm B 48) (oe M q) 64:=⟨_,rfl⟩;have hc:=B9 hR;rw [←hR]at h5 B_;have hs:oe M (q+1)=comp K0 (oe M q) B:=by rw [ZI];rfl
  rw [h5 0 (by omega),h5 1 (by omega),h5 2 (by omega),h5 3 (by omega),h5 4 (by omega),h5 5 (by omega),h5 6 (by omega),h5 7 (by omega)];rw [vw (hH 0 (by omega)) (B_ 0 (by omega)),vw (hH 1 (by omega)) (B_ 1 (by omega)),vw (hH 2 (by omega)) (B_ 2 (by omega)),vw (hH 3 (by omega)) (B_ 3 (by omega)),vw (hH 4 (by omega)) (B_ 4 (by omega)),vw (hH 5 (by omega)) (B_ 5 (by omega)),vw (hH 6 (by omega)) (B_ 6 (by omega)),vw (hH 7 (by omega)) (B_ 7 (by omega))];rw [←hc 0,←hc 1,←hc 2,←hc 3,←hc 4,←hc 5,←hc 6,←hc 7,←hs];refine⟨by omega,fun _=>?_⟩;refine⟨by omega,fun _=>?_⟩;refine⟨_,_,_,_,_,_,_,_,((64*q:Nat):Int)+64,rfl,rfl,rfl,rfl,rfl,rfl,rfl,rfl,rfl,⟨q+1,by omega,?_⟩,?_⟩
  ·rw [show((64*q:Nat):Int)+64=((64*(q+1):Nat):Int) by omega];rfl
  ·simp only [ah,aeW];omega
 have hqe:q=(n+8)/64+1:=by omega
 rw [←hqe];generalize oe M q=C at*;refine⟨fun e=> ∃a:Nat,a≤8∧e.i=[(a:Int),((4*a:Nat):Int)]∧(∀j,j<8→e.a.getD 1 (fun _=>0) j=((C j:Nat):Int))∧∀j,j<4*a→e.a.getD 0 (fun _=>0) j=((Sh.bytesOf C j:Nat):Int),fun e=>(8 - e.i.getD 0 0).toNat,
  ⟨_,0,0,fun _=>0,_,rfl,rfl,fun _ _=>rfl,rfl,rfl,fun _ _=>rfl,0,by omega,rfl,fun j hj=>?_,fun j hj=>absurd hj (by omega)⟩,?_⟩
 ·simp only [ah,aeW];unfold aq
  match j,hj with
  | 0,_=>rfl
  | 1,_=>rfl
  | 2,_=>rfl
  | 3,_=>rfl
  | 4,_=>rfl
  | 5,_=>rfl
  | 6,_=>rfl
  | 7,_=>rfl
 rintro v4 x9 dS A3 A4 ⟨a,ha,hx,h4,h3⟩;simp only [ae8,and_true]at hx;obtain⟨rfl,rfl⟩:=hx;simp only [ah,aeW]at h4 h3;refine⟨fun bU=>?_,fun iH=>?_⟩
 ·rw [show ag (a:Int)=a from afe a,h4 a (by omega),o24 (hH a (by omega)),o16 (hH a (by omega)),o8 (hH a (by omega)),o0 (hH a (by omega))];refine⟨by omega,fun _=>?_⟩;refine⟨_,bj 24 rfl rfl (by decide),?_⟩;rintro r hs ⟨rfl,rfl⟩;refine⟨rfl,rfl,?_⟩;intro b1;refine⟨by omega,fun _=>?_⟩;refine⟨by omega,fun _=>?_⟩;intro v5;refine⟨_,bj 16 rfl rfl (by decide),?_⟩;rintro r hs ⟨rfl,rfl⟩;refine⟨rfl,rfl,?_⟩;intro b2;refine⟨by omega,fun _=>?_⟩;refine⟨by omega,fun _=>?_⟩;intro v6;refine⟨_,bj 8 rfl rfl (by decide),?_⟩;rintro r hs ⟨rfl,rfl⟩;refine⟨rfl,rfl,?_⟩;intro b3;refine⟨by omega,fun _=>?_⟩;refine⟨by omega,fun _=>?_⟩;intro v7;refine⟨_,bj 0 rfl rfl (by decide),?_⟩;rintro r hs ⟨rfl,rfl⟩;refine⟨rfl,rfl,?_⟩;intro b4;refine⟨by omega,fun _=>?_⟩;refine⟨by omega,fun _=>?_⟩;intro v8;refine⟨by omega,fun _=>?_⟩;refine⟨by omega,fun _=>?_⟩;refine⟨_,(a:Int)+1,_,_,A4,rfl,rfl,fun _ _=>rfl,rfl,rfl,fun _ _=>rfl,⟨a+1,by omega,?_,?_,fun j hj=>?_⟩,?_⟩
  ·rw [show((4*a:Nat):Int)+1+1+1+1=((4*(a+1):Nat):Int) by omega];rfl
  ·simp only [ah,aeW];exact h4
  ·simp only [ah];rw [show ag ((4*a:Nat):Int)=4*a by omega,show ag (((4*a:Nat):Int)+1)=4*a+1 by omega,show ag (((4*a:Nat):Int)+1+1)=4*a+2 by omega,show ag (((4*a:Nat):Int)+1+1+1)=4*a+3 by omega];unfold aq Sh.bytesOf;by_cases j3:j=4*a+3
   ·rw [if_pos j3,show j/4=a by omega,show 24 - 8*(j%4)=0 by omega]
   rw [if_neg j3];by_cases j2:j=4*a+2
   ·rw [if_pos j2,show j/4=a by omega,show 24 - 8*(j%4)=8 by omega]
   rw [if_neg j2];by_cases j1:j=4*a+1
   ·rw [if_pos j1,show j/4=a by omega,show 24 - 8*(j%4)=16 by omega]
   rw [if_neg j1];by_cases j0:j=4*a
   ·rw [if_pos j0,show j/4=a by omega,show 24 - 8*(j%4)=24 by omega]
   rw [if_neg j0];exact h3 j (by omega)
  ·simp only [ah];omega
 have ZH:a=8:=by omega
 subst ZH;refine⟨v4,rfl,?_⟩;show [aE true 5 1 v4.v 32 (aQ 32 [aO .u8 1 A3])]=_;unfold aj;rw [aW h3]
theorem GX{B:List HP}{x:Value}(hx:x.oneCell'=true)(T:Nat→Nat)(hT: ∀j,T j<256)(n:Nat)(hl:n+300≤140737488355328)(h:au B (aB x n T)):aw ae0 145 [x,.int .i64 32] B fun r hs=> ∃o:V1,r=o.v∧hs=B++[aj true o 32 (eV n T)]:=
 bJ (GV ⟨x,hx⟩ T hT n hl) (pK h)
end Go.RX.Fn
