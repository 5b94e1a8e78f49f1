/- Sums. -/
import Derived.Test.YtllcdnkfbeokhaaGreatM41
open Go.IntKind renaming i64 → aqy, wrap → ae
open Go.Proofs.Tryz renaming prog → aqQ
open Int renaming toNat → ag, toNat_natCast → aqD
open List renaming append → aqk, getD_cons_zero → ah, getElem?_append_left → aqs, getElem?_append_right → aqt, getElem?_eq_some_iff → aqo
open Option.some renaming injEq → aqp
namespace Go.RX.Fm
open Go Go.RX Go.Proofs Go.RX.Sh Go.RX.Fg Go.RX.Fj Go.RX.Fk
theorem abo{x:Int}(h0:0≤x)(h1:x≤64):ae .i64 (ar .quo .i64 x 4)=((x.toNat/4:Nat):Int):=by
 obtain⟨i,rfl⟩:=Int.eq_ofNat_of_zero_le h0;show ae .i64 (Int.tdiv (i:Int) 4)=_;have:Int.tdiv (i:Int) 4=((i/4:Nat):Int):=rfl;rw [this,aqD];simp [ae,IntKind.signed,IntKind.bits];omega
abbrev uG(b:Nat)(vh vk:V1):HP:=ak b true [vh.v,vk.v,.int .i64 4,.int .i64 2,.int .i64 13,.int .i64 22,.int .i64 6,.int .i64 11,.int .i64 25,.int .i64 7,.int .i64 18,.int .i64 3,.int .i64 17,.int .i64 19,.int .i64 10]
theorem PD{B:Nat→Nat}{A:Nat→Int}(hB: ∀j,j<64→B j<256){t:Int}(h0:16≤t)(h1:t<64)(hA: ∀j,j<64→A j=((gj B (t.toNat - 16) j:Nat):Int))(j:Nat)(hj:j<64):
  aw A (ag t) (ae .u32 ((ae .u32 ((ae .u32 ((ar .cy .u32 (ar .cy .u32 (ar .cz .u32 (ar .shr .u32 (A (ag (t - 2))) 17) (ar .shl .u32 (A (ag (t - 2))) 15)) (ar .cz .u32 (ar .shr .u32 (A (ag (t - 2))) 19) (ar .shl .u32 (A (ag (t - 2))) 13))) (ar .shr .u32 (A (ag (t - 2))) 10))+(A (ag (t - 7)))))+(ar .cy .u32 (ar .cy .u32 (ar .cz .u32 (ar .shr .u32 (A (ag (t - 15))) 7) (ar .shl .u32 (A (ag (t - 15))) 25)) (ar .cz .u32 (ar .shr .u32 (A (ag (t - 15))) 18) (ar .shl .u32 (A (ag (t - 15))) 14))) (ar .shr .u32 (A (ag (t - 15))) 3))))+(A (ag (t - 16))))) j
   =((gj B (t.toNat - 16+1) j:Nat):Int):=by
 have hl:=Hp hB (t.toNat - 16);obtain⟨n,hn⟩: ∃n,n=t.toNat - 16:=⟨_,rfl⟩;rw [←hn]at hA hl ⊢;rw [gj];unfold aw;dsimp only;by_cases Hr:j=t.toNat
 ·rw [if_pos Hr,if_pos (by omega)];rw [hA (ag (t - 2)) (by omega),hA (ag (t - 7)) (by omega),hA (ag (t - 15)) (by omega),hA (ag (t - 16)) (by omega)];rw [show ag (t - 2)=n+14 by omega,show ag (t - 7)=n+9 by omega,show ag (t - 15)=n+1 by omega,show ag (t - 16)=n by omega];rw [ahy (hl _),ahx (hl _),qP,qP,qP];congr 1;omega
 ·rw [if_neg Hr,if_neg (by omega)];exact hA j hj
theorem S4{v:Nat→Nat}(hv: ∀j,j<8→v j<2^32)(k w:Nat):
  ae .u32 ((ae .u32 ((ae .u32 ((ae .u32 (((v 7:Nat):Int)+(ar .cy .u32 (ar .cy .u32 (ar .cz .u32 (ar .shr .u32 ((v 4:Nat):Int) 6) (ar .shl .u32 ((v 4:Nat):Int) 26)) (ar .cz .u32 (ar .shr .u32 ((v 4:Nat):Int) 11) (ar .shl .u32 ((v 4:Nat):Int) 21))) (ar .cz .u32 (ar .shr .u32 ((v 4:Nat):Int) 25) (ar .shl .u32 ((v 4:Nat):Int) 7)))))+(ar .cy .u32 (ar .fJ .u32 ((v 4:Nat):Int) ((v 5:Nat):Int)) (ar .fJ .u32 (ar .cy .u32 4294967295 ((v 4:Nat):Int)) ((v 6:Nat):Int)))))+((k:Nat):Int)))+((w:Nat):Int))=((temp v k w:Nat):Int):=by
 rw [ahA (hv 4 (by omega)),ahB (hv 4 (by omega)) (hv 5 (by omega)) (hv 6 (by omega)),qP,qP,qP,qP];unfold temp;congr 1;omega
theorem PE{v:Nat→Nat}(hv: ∀j,j<8→v j<2^32):
  ae .u32 ((ar .cy .u32 (ar .cy .u32 (ar .cz .u32 (ar .shr .u32 ((v 0:Nat):Int) 2) (ar .shl .u32 ((v 0:Nat):Int) 30)) (ar .cz .u32 (ar .shr .u32 ((v 0:Nat):Int) 13) (ar .shl .u32 ((v 0:Nat):Int) 19))) (ar .cz .u32 (ar .shr .u32 ((v 0:Nat):Int) 22) (ar .shl .u32 ((v 0:Nat):Int) 10)))+(ar .cy .u32 (ar .cy .u32 (ar .fJ .u32 ((v 0:Nat):Int) ((v 1:Nat):Int)) (ar .fJ .u32 ((v 0:Nat):Int) ((v 2:Nat):Int))) (ar .fJ .u32 ((v 1:Nat):Int) ((v 2:Nat):Int))))=(((S0 (v 0)+TA (v 0) (v 1) (v 2))%2^32:Nat):Int):=by
 rw [ahz (hv 0 (by omega)),abk (hv 0 (by omega)) (hv 1 (by omega)) (hv 2 (by omega)),qP]
def eight(v:Nat→Nat)(a:Nat):List Int:=[((v 0:Nat):Int),((v 1:Nat):Int),((v 2:Nat):Int),((v 3:Nat):Int),((v 4:Nat):Int),((v 5:Nat):Int),((v 6:Nat):Int),((v 7:Nat):Int),(a:Int)]
theorem Hs(v:Nat→Nat)(k w a:Nat):[(((temp v k w+(S0 (v 0)+TA (v 0) (v 1) (v 2))%2^32)%2^32:Nat):Int),((v 0:Nat):Int),((v 1:Nat):Int),((v 2:Nat):Int),(((v 3+temp v k w)%2^32:Nat):Int),((v 4:Nat):Int),((v 5:Nat):Int),((v 6:Nat):Int),(a:Int)+1]=eight (Sh.step v k w) (a+1):=by
 unfold eight;rw [Mh,Mi,lB v k w (j:=1) (by decide) (by decide) (by decide),lB v k w (j:=2) (by decide) (by decide) (by decide),lB v k w (j:=3) (by decide) (by decide) (by decide),lB v k w (j:=5) (by decide) (by decide) (by decide),
  lB v k w (j:=6) (by decide) (by decide) (by decide),lB v k w (j:=7) (by decide) (by decide) (by decide),Int.natCast_add a 1]
 simp only [Int.natCast_one]
theorem CH{K H B R:Nat→Nat}(hR:R=SX K (gj B 48) H 64)(j:Nat):comp K H B j=(H j+R j)%2^32:=by
 unfold comp;rw [hR]
abbrev ff(v:V1)(n:Nat)(A:Nat→Int):HP:=aB true 39 1 v.v n (aK n [aC .u32 1 A])
theorem E2(b:Nat)(vh vk vb:V1)(A0 A1 A2:Nat→Int)(K H B:Nat→Nat)(uy: ∀j,j<8→A0 j=(H j:Nat))(hH: ∀j,j<8→H j<2^32)
  (Ui: ∀j,j<64→A1 j=(K j:Nat)) (WW: ∀j,j<64→A2 j=(B j:Nat)) (hB: ∀j,j<64→B j<256):
  aq aqQ 98 [.pointer (some ⟨b,0,none⟩),vb.v] [uG b vh vk,ff vh 8 A0,ff vk 64 A1,aB false 5 1 vb.v 64 (aK 64 [aC .u8 1 A2])]
   (fun r hs=> ∃A:Nat→Int,r= .tuple #[]∧hs=[uG b vh vk,ff vh 8 A,ff vk 64 A1]∧∀j,j<8→A j=((comp K H B j:Nat):Int)):=by
 refine Pz _ A0 A1 A2 vh vk vb b ?_;unfold EY;intro v3;refine⟨fun e=> ∃a:Nat,a≤64∧e.i=[(a:Int)]∧∀j,j<64→e.a.getD 0 (fun _=>0) j=((fill B a j:Nat):Int),fun e=>(64 - e.i.getD 0 0).toNat,⟨0,fun _=>0,rfl,fun _ _=>rfl,0,by omega,rfl,fun j _=>rfl⟩,?_⟩;rintro x1 A3 ⟨a,ha,hx,hA⟩;simp only [List.cons.injEq,and_true]at hx;subst hx;simp only [ah]at hA;have hq:=abo (x:=(a:Int)) (by omega) (by omega);refine⟨fun cq=>⟨by rw [hq];omega,fun _=>⟨by rw [hq];omega,fun _=>⟨by omega,fun _=>⟨by omega,fun _=>⟨by omega,fun _=>?_⟩⟩⟩⟩⟩,fun lN=>?_⟩
 ·refine⟨(a:Int)+1,_,rfl,fun _ _=>rfl,⟨a+1,by omega,rfl,fun j hj=>?_⟩,?_⟩
  ·simp only [ah];rw [hq,aqD,aqD,fill];unfold aw;dsimp only;by_cases Hr:j=a/4
   ·rw [if_pos Hr,if_pos Hr,hA _ (by omega),WW a (by omega),wrap_u32];have hb:=hB a (by omega);rw [Nat.mod_eq_of_lt (by omega),show ar .shl .u32 ((fill B a (a/4):Nat):Int) 8=_ from Un (fill B a (a/4)) 8 (by decide),abg (Nat.mod_lt _ (Nat.two_pow_pos 32)) (by omega)]
   ·rw [if_neg Hr,if_neg Hr];exact hA j hj
  ·simp only [ah];omega
 have Ht:a=64:=by omega
 subst Ht;refine⟨fun e=> ∃a:Nat,16≤a∧a≤64∧e.i=[(a:Int)]∧∀j,j<64→e.a.getD 0 (fun _=>0) j=((gj B (a - 16) j:Nat):Int),fun e=>(64 - e.i.getD 0 0).toNat,⟨16,A3,rfl,fun _ _=>rfl,16,by omega,by omega,rfl,fun j hj=>?_⟩,?_⟩
 ·simp only [ah];rw [hA j hj,PA hB]
 rintro x2 A4 ⟨a,anB,ha,hx,Xi⟩;simp only [List.cons.injEq,and_true]at hx;subst hx;simp only [ah]at Xi;refine⟨fun cq=>⟨by omega,fun _=>⟨by omega,fun _=>⟨by omega,fun _=>⟨by omega,fun _=>⟨by omega,fun _=>⟨by omega,fun _=>⟨by omega,fun _=>⟨by omega,fun _=>⟨by omega,fun _=>⟨by omega,fun _=>⟨by omega,fun _=>⟨by omega,fun _=>⟨by omega,fun _=>⟨by omega,fun _=>⟨by omega,fun _=>⟨by omega,fun _=>fun b1 b2=>⟨by omega,fun _=>⟨by omega,fun _=>⟨by omega,fun _=>?_⟩⟩⟩⟩⟩⟩⟩⟩⟩⟩⟩⟩⟩⟩⟩⟩⟩⟩⟩,fun lN=>fun b1=>?_⟩
 ·refine⟨(a:Int)+1,_,rfl,fun _ _=>rfl,⟨a+1,by omega,by omega,rfl,fun j hj=>?_⟩,?_⟩
  ·simp only [ah];have:=PD hB (t:=(a:Int)) (by omega) (by omega) (A:=A4) (by rw [aqD];exact Xi) j hj;rw [this,aqD,show a - 16+1=a+1 - 16 by omega]
  ·simp only [ah];omega
 have Ht:a=64:=by omega
 subst Ht;have hv:=Hq (K:=K) (W:=gj B 48) hH;refine⟨fun e=> ∃a:Nat,a≤64∧e.i=eight (SX K (gj B 48) H a) a,fun e=>(64 - e.i.getD 8 0).toNat,⟨_,_,_,_,_,_,_,_,0,rfl,(uy 0 (by omega)).symm,(uy 1 (by omega)).symm,(uy 2 (by omega)).symm,(uy 3 (by omega)).symm,(uy 4 (by omega)).symm,(uy 5 (by omega)).symm,(uy 6 (by omega)).symm,(uy 7 (by omega)).symm,0,by omega,rfl⟩,?_⟩;rintro x3 x4 x5 x6 x7 x8 x9 bE bM ⟨a,ha,hx⟩;simp only [eight,List.cons.injEq,and_true]at hx;obtain⟨rfl,rfl,rfl,rfl,rfl,rfl,rfl,rfl,rfl⟩:=hx;refine⟨fun cq=>⟨by omega,fun _=>fun b2 b3=>⟨by omega,fun _=>⟨by omega,fun _=>?_⟩⟩⟩,fun lN=>?_⟩
 ·refine⟨_,_,_,_,_,_,_,_,(a:Int)+1,rfl,rfl,rfl,rfl,rfl,rfl,rfl,rfl,rfl,⟨a+1,by omega,?_⟩,?_⟩
  ·have hk:A1 (ag (a:Int))=((K a:Nat):Int):=by rw [aqD];exact Ui a (by omega)
   have hw:A4 (ag (a:Int))=((gj B 48 a:Nat):Int):=by rw [aqD];exact Xi a (by omega)
   rw [hk,hw,S4 (hv a),PE (hv a),qP,qP];exact Hs _ _ _ _
  ·simp only [ah,List.getD_cons_succ];omega
 have Ht:a=64:=by omega
 subst Ht;obtain⟨R,hR⟩: ∃R:Nat→Nat,R=SX K (gj B 48) H 64:=⟨_,rfl⟩;have hc:=CH hR;rw [←hR];refine⟨fun e=> ∃a:Nat,a≤8∧e.i=[(a:Int)]∧(∀j,j<8→e.a.getD 1 (fun _=>0) j=((R j:Nat):Int))∧∀j,j<8→e.a.getD 0 (fun _=>0) j=(((if j<a then comp K H B j else H j):Nat):Int),fun e=>(8 - e.i.getD 0 0).toNat,
  ⟨0,A0,_,rfl,fun _ _=>rfl,fun _ _=>rfl,0,by omega,rfl,fun j hj=>?_,fun j hj=>?_⟩,?_⟩
 ·simp only [ah,List.getD_cons_succ];unfold aw
  match j,hj with
  | 0,_=>rfl
  | 1,_=>rfl
  | 2,_=>rfl
  | 3,_=>rfl
  | 4,_=>rfl
  | 5,_=>rfl
  | 6,_=>rfl
  | 7,_=>rfl
 ·simp only [ah];rw [if_neg (by omega)];exact uy j hj
 rintro bP A5 A6 ⟨a,ha,hx,h6,h5⟩;simp only [List.cons.injEq,and_true]at hx;subst hx;simp only [ah,List.getD_cons_succ]at h6 h5;refine⟨fun cq=>⟨by omega,fun _=>⟨by omega,fun _=>⟨by omega,fun _=>?_⟩⟩⟩,fun lN=>?_⟩
 ·refine⟨(a:Int)+1,_,A6,rfl,fun _ _=>rfl,fun _ _=>rfl,⟨a+1,by omega,rfl,h6,fun j hj=>?_⟩,?_⟩
  ·simp only [ah];rw [aqD];unfold aw;by_cases Xo:j=a
   ·subst Xo;rw [if_pos rfl,if_pos (by omega),h5 j hj,h6 j hj,if_neg (by omega),qP,hc]
   ·rw [if_neg Xo,h5 j hj];by_cases h:j<a
    ·rw [if_pos h,if_pos (by omega)]
    ·rw [if_neg h,if_neg (by omega)]
  ·simp only [ah];omega
 have ha8:a=8:=by omega
 subst ha8;refine⟨A5,rfl,rfl,fun j hj=>?_⟩;rw [h5 j hj,if_pos hj]
theorem IW{f:Nat→Int}{i j:Nat}{x:Int}(h:j≠i):aw f i x j=f j:=by
 unfold aw;rw [if_neg h]
theorem abt{A:Nat→Int}{C:Nat→Nat}(h: ∀j,j<8→A j=((C j:Nat):Int))(j:Nat)(hj:j<32):
  (aw (aw (aw (aw (aw (aw (aw (aw (aw (aw (aw (aw (aw (aw (aw (aw (aw (aw (aw (aw (aw (aw (aw (aw (aw (aw (aw (aw (aw (aw (aw (aw (fun _=>0) 0 (ae .u8 (ar .shr .u32 (A 0) 24))) 1 (ae .u8 (ar .shr .u32 (A 0) 16))) 2 (ae .u8 (ar .shr .u32 (A 0) 8))) 3 (ae .u8 (ar .shr .u32 (A 0) 0))) 4 (ae .u8 (ar .shr .u32 (A 1) 24))) 5 (ae .u8 (ar .shr .u32 (A 1) 16))) 6 (ae .u8 (ar .shr .u32 (A 1) 8))) 7 (ae .u8 (ar .shr .u32 (A 1) 0))) 8 (ae .u8 (ar .shr .u32 (A 2) 24))) 9 (ae .u8 (ar .shr .u32 (A 2) 16))) 10 (ae .u8 (ar .shr .u32 (A 2) 8))) 11 (ae .u8 (ar .shr .u32 (A 2) 0))) 12 (ae .u8 (ar .shr .u32 (A 3) 24))) 13 (ae .u8 (ar .shr .u32 (A 3) 16))) 14 (ae .u8 (ar .shr .u32 (A 3) 8))) 15 (ae .u8 (ar .shr .u32 (A 3) 0))) 16 (ae .u8 (ar .shr .u32 (A 4) 24))) 17 (ae .u8 (ar .shr .u32 (A 4) 16))) 18 (ae .u8 (ar .shr .u32 (A 4) 8))) 19 (ae .u8 (ar .shr .u32 (A 4) 0))) 20 (ae .u8 (ar .shr .u32 (A 5) 24))) 21 (ae .u8 (ar .shr .u32 (A 5) 16))) 22 (ae .u8 (ar .shr .u32 (A 5) 8))) 23 (ae .u8 (ar .shr .u32 (A 5) 0))) 24 (ae .u8 (ar .shr .u32 (A 6) 24))) 25 (ae .u8 (ar .shr .u32 (A 6) 16))) 26 (ae .u8 (ar .shr .u32 (A 6) 8))) 27 (ae .u8 (ar .shr .u32 (A 6) 0))) 28 (ae .u8 (ar .shr .u32 (A 7) 24))) 29 (ae .u8 (ar .shr .u32 (A 7) 16))) 30 (ae .u8 (ar .shr .u32 (A 7) 8))) 31 (ae .u8 (ar .shr .u32 (A 7) 0))) j=((Sh.bytesOf C j:Nat):Int):=by
 rw [h 0 (by omega),h 1 (by omega),h 2 (by omega),h 3 (by omega),h 4 (by omega),h 5 (by omega),h 6 (by omega),h 7 (by omega)];have:j=0∨j=1∨j=2∨j=3∨j=4∨j=5∨j=6∨j=7∨j=8∨j=9∨j=10∨j=11∨j=12∨j=13∨j=14∨j=15∨j=16∨j=17∨j=18∨j=19∨j=20∨j=21∨j=22∨j=23∨j=24∨j=25∨j=26∨j=27∨j=28∨j=29∨j=30∨j=31:=by omega
 clear hj h;rcases this with rfl | rfl | rfl | rfl | rfl | rfl | rfl | rfl | rfl | rfl | rfl | rfl | rfl | rfl | rfl | rfl | rfl | rfl | rfl | rfl | rfl | rfl | rfl | rfl | rfl | rfl | rfl | rfl | rfl | rfl | rfl | rfl
 ·exact bX (C 0) 24 (by decide)
 ·exact bX (C 0) 16 (by decide)
 ·exact bX (C 0) 8 (by decide)
 ·exact bX (C 0) 0 (by decide)
 ·exact bX (C 1) 24 (by decide)
 ·exact bX (C 1) 16 (by decide)
 ·exact bX (C 1) 8 (by decide)
 ·exact bX (C 1) 0 (by decide)
 ·exact bX (C 2) 24 (by decide)
 ·exact bX (C 2) 16 (by decide)
 ·exact bX (C 2) 8 (by decide)
 ·exact bX (C 2) 0 (by decide)
 ·exact bX (C 3) 24 (by decide)
 ·exact bX (C 3) 16 (by decide)
 ·exact bX (C 3) 8 (by decide)
 ·exact bX (C 3) 0 (by decide)
 ·exact bX (C 4) 24 (by decide)
 ·exact bX (C 4) 16 (by decide)
 ·exact bX (C 4) 8 (by decide)
 ·exact bX (C 4) 0 (by decide)
 ·exact bX (C 5) 24 (by decide)
 ·exact bX (C 5) 16 (by decide)
 ·exact bX (C 5) 8 (by decide)
 ·exact bX (C 5) 0 (by decide)
 ·exact bX (C 6) 24 (by decide)
 ·exact bX (C 6) 16 (by decide)
 ·exact bX (C 6) 8 (by decide)
 ·exact bX (C 6) 0 (by decide)
 ·exact bX (C 7) 24 (by decide)
 ·exact bX (C 7) 16 (by decide)
 ·exact bX (C 7) 8 (by decide)
 ·exact bX (C 7) 0 (by decide)
end Go.RX.Fm

namespace Go.RX.Fk
open Go Go.RX Go.Proofs Go.Ae Go.RX.Sh Go.RX.Fe Go.RX.Fg Go.RX.Fi Go.RX.Fj Go.Gh
def K8(m j:Nat):Nat:=m/256^(7 - j)%256
theorem S5(m j:Nat):K8 m j<256:=Nat.mod_lt _ (by decide)
end Go.RX.Fk

namespace Go.RX.Fh
open Go.RX Go.Proofs Go.RX.Fe Go.RX.Fg
noncomputable def cx:Ctx:={T:=TT,FT:=FT,loops:=Fh.loops,bj:=Fh.bj}
set_option maxRecDepth 100000
open Go Go.RX Go.Proofs Go.Ae Go.RX.Sh Go.RX.Fe Go.RX.Fg Go.Gh
theorem abu(a n:Nat)(hn:n≤64):ar .shl .u64 (a:Int) (n:Int)=((a*2^n%2^64:Nat):Int):=by
 show ae .u64 ((a:Int)*2^(min (ag (n:Int)) 64))=_;rw [show min (ag (n:Int)) 64=n by rw [aqD];omega,show((a:Int)*2^n)=((a*2^n:Nat):Int) by rw [Int.natCast_mul,Int.natCast_pow];rfl,wrap_u64]
end Go.RX.Fh

namespace Go.RX.Sh
open Go.RX Go.RX.Fk
def w6(M:Nat→Nat):Nat→Nat→Nat
 | 0=>H0
 | q+1=>comp K0 (w6 M q) (fun i=>M (64*q+i))
theorem Hu(M:Nat→Nat): ∀q j,j<8→w6 M q j<2^32
 | 0,j,hj=>abn j hj
 | _+1,j,_=>S3 j
def dZ(n:Nat):Nat:=64*((n+8)/64+1)
def ky(n:Nat)(M:Nat→Nat)(j:Nat):Nat:=if j<n then M j else if j=n then 128 else if j<dZ n - 8 then 0 else K8 (n*8) (j - (dZ n - 8))
theorem IX{M:Nat→Nat}(hM: ∀j,M j<256)(n j:Nat):ky n M j<256:=by
 unfold ky;split
 ·exact hM j
 split
 ·decide
 split
 ·decide
 ·exact S5 _ _
def vP(n:Nat)(M:Nat→Nat):Nat→Nat:=Sh.bytesOf (w6 (ky n M) ((n+8)/64+1))
theorem S6(n:Nat)(M:Nat→Nat)(j:Nat):vP n M j<256:=PB _ j
theorem lb{n:Nat}(h:n<2^60)(s:Nat)(hs:s≤64):ae .u8 (ar .shr .u64 (ar .shl .u64 (n:Int) 3) (s:Int))=((n*8/2^s%256:Nat):Int):=by
 have h1:ar .shl .u64 (n:Int) 3=((n*8:Nat):Int):=by
  have:=Fh.abu n 3 (by decide);rw [show((3:Nat):Int)=3 from rfl]at this;rw [this];congr 1;omega
 rw [h1,rC .u64 _ s hs,wrap_u8,Nat.shiftRight_eq_div_pow]
theorem Xp{n:Nat}(h:n<2^60)(j:Nat)(hj:j<8):
  (aw (aw (aw (aw (aw (aw (aw (aw (fun _=>0) 7 (ae .u8 (ar .shr .u64 (ar .shl .u64 (n:Int) 3) 0))) 6 (ae .u8 (ar .shr .u64 (ar .shl .u64 (n:Int) 3) 8))) 5 (ae .u8 (ar .shr .u64 (ar .shl .u64 (n:Int) 3) 16))) 4 (ae .u8 (ar .shr .u64 (ar .shl .u64 (n:Int) 3) 24))) 3 (ae .u8 (ar .shr .u64 (ar .shl .u64 (n:Int) 3) 32))) 2 (ae .u8 (ar .shr .u64 (ar .shl .u64 (n:Int) 3) 40))) 1 (ae .u8 (ar .shr .u64 (ar .shl .u64 (n:Int) 3) 48))) 0 (ae .u8 (ar .shr .u64 (ar .shl .u64 (n:Int) 3) 56))) j=(K8 (n*8) j:Nat):=by
 unfold K8
 match j,hj with
 | 0,_=>exact lb h 56 (by decide)
 | 1,_=>exact lb h 48 (by decide)
 | 2,_=>exact lb h 40 (by decide)
 | 3,_=>exact lb h 32 (by decide)
 | 4,_=>exact lb h 24 (by decide)
 | 5,_=>exact lb h 16 (by decide)
 | 6,_=>exact lb h 8 (by decide)
 | 7,_=>exact lb h 0 (by decide)
 | j+8,h=>exact absurd h (by omega)
end Go.RX.Sh

namespace Go.RX
theorem bJ.idx{a b:List HP}(idx:List Nat)(gV:idx.Nodup)(h: ∀(j:Nat) x,b[j]? =some x→∃i,idx[j]? =some i∧a[i]? =some x):bJ a b:=by
 intro w Fs o;refine o.ue (fun j=>if j<b.length then idx[j]? else some (a.length+(j - b.length))) ?_ ?_
 ·intro j x hx;right;by_cases hj:j<b.length
  ·rw [aqs hj]at hx;obtain⟨i,h1,h2⟩:=h j x hx;refine⟨i,by simp only [hj,if_true,h1],?_⟩;rw [aqs (aqo.1 h2).1];exact h2
  ·rw [aqt (by omega)]at hx;refine⟨_,by simp only [hj,if_false];rfl,?_⟩;rw [aqt (by omega),Nat.add_sub_cancel_left];exact hx
 ·intro j j' i hj lO _ _;by_cases h1:j<b.length
  ·have hx:b[j]? =some b[j]:=List.getElem?_eq_getElem h1;obtain⟨i1,q1,q2⟩:=h j _ hx;have IY:=(aqo.1 q2).1;simp only [h1,if_true,q1,aqp]at hj;subst hj;by_cases h2:j'<b.length
   ·simp only [h2,if_true]at lO;obtain⟨l1,e1⟩:=aqo.1 q1;obtain⟨l2,e2⟩:=aqo.1 lO;exact(List.getElem_inj gV).1 (e1.trans e2.symm)
   ·simp only [h2,if_false,aqp]at lO;omega
  ·simp only [h1,if_false,aqp]at hj;by_cases h2:j'<b.length
   ·have hx:b[j']? =some b[j']:=List.getElem?_eq_getElem h2;obtain⟨i1,q1,q2⟩:=h j' _ hx;have IY:=(aqo.1 q2).1;simp only [h2,if_true,q1,aqp]at lO;omega
   ·simp only [h2,if_false,aqp]at lO;omega
theorem bJ.at3{a:List HP}{i j k:Nat}{x y z:HP}(hi:a[i]? =some x)(hj:a[j]? =some y)(hk:a[k]? =some z)(hn:[i,j,k].Nodup):bJ a [x,y,z]:=by
 refine bJ.idx [i,j,k] hn fun m u hu=>?_
 match m,hu with
 | 0,hu=>cases hu;exact⟨i,rfl,hi⟩
 | 1,hu=>cases hu;exact⟨j,rfl,hj⟩
 | 2,hu=>cases hu;exact⟨k,rfl,hk⟩
 | m+3,hu=>simp at hu
end Go.RX
namespace Go.RX.Fm
open Go Go.RX Go.Proofs Go.RX.Sh Go.RX.Fg Go.RX.Fj Go.RX.Fk
set_option maxRecDepth 100000 in
theorem CI:aq aqQ 46 [] [] (fun r hs=> ∃b:Nat,∃vh vk:V1,∃A B:Nat→Int,r= .pointer (some ⟨b,0,none⟩)∧
  hs=[uG b vh vk,ff vh 8 A,ff vk 64 B]∧(∀j,j<8→A j=((H0 j:Nat):Int))∧∀j,j<64→B j=((K0 j:Nat):Int)):=by
 refine aq.post (p:=fun r hs=> ∃b:Nat,∃vh vk:V1,∃A B:Nat→Int,r= .pointer (some ⟨b,0,none⟩)∧hs[2]? =some (ff vh 8 A)∧hs[12]? =some (ff vk 64 B)∧
  hs[76]? =some (uG b vh vk)∧(∀j,j<8→A j=((H0 j:Nat):Int))∧∀j,j<64→B j=((K0 j:Nat):Int)) ?_ ?_
 rotate_left
 ·rintro r hs ⟨b,vh,vk,A,B,rfl,h1,h2,h3,h4,h5⟩;exact⟨_,bJ.at3 h3 h1 h2 (by decide),b,vh,vk,A,B,rfl,rfl,h4,h5⟩
 refine K7 _ ?_;unfold BG
 intros
 exact⟨_,_,_,_,_,rfl,rfl,rfl,rfl,by decide+kernel,by decide+kernel⟩
theorem w7{B:List HP}{x:Value}(b:Nat)(vh vk:V1)(hx:x.oneCell'=true)(A0 A1:Nat→Int)(K H T:Nat→Nat)(uy: ∀j,j<8→A0 j=(H j:Nat))(hH: ∀j,j<8→H j<2^32)
  (Ui: ∀j,j<64→A1 j=(K j:Nat)) (hT: ∀j,T j<256) (hb:bc B (od x 64 T)):
  aq aqQ 98 [.pointer (some ⟨b,0,none⟩),x] ([uG b vh vk,ff vh 8 A0,ff vk 64 A1]++B)
   fun r hs=> ∃A:Nat→Int,r= .tuple #[]∧hs=[uG b vh vk,ff vh 8 A,ff vk 64 A1]++B∧∀j,j<8→A j=((comp K H T j:Nat):Int):=by
 have hm:aq aqQ 98 [.pointer (some ⟨b,0,none⟩),x] ([uG b vh vk,ff vh 8 A0,ff vk 64 A1]++[od x 64 T]) fun r hs=> ∃A:Nat→Int,r= .tuple #[]∧hs=[uG b vh vk,ff vh 8 A,ff vk 64 A1]∧∀j,j<8→A j=((comp K H T j:Nat):Int):=
  E2 b vh vk ⟨x,hx⟩ A0 A1 (fun j=>(T j:Nat)) K H T uy hH Ui (fun _ _=>rfl) (fun j _=>hT j)
 refine aq.post (aq.Cg hm ?_ (abr hb)) ?_
 ·rintro v hs ⟨A,_,rfl,_⟩ h hh;simp only [List.mem_cons,List.not_mem_nil,or_false]at hh;rcases hh with rfl | rfl | rfl<;>rfl
 ·rintro v hs ⟨xQ,⟨A,hr,rfl,hA⟩,rfl⟩;exact⟨_,bJ.refl _,A,hr,rfl,hA⟩
theorem PF{z:V1}{r:Nat}{B:Nat→Int}{T:Nat→Nat}(h:64≤r)(hB: ∀j,j<r→B j=(T j:Nat)):bc [aB true 5 1 z.v r (aK r [aC .u8 1 B])] (od (aE 1 z.v 0 64 none) 64 T):=by
 have e:aB true 5 1 z.v r (aK r [aC .u8 1 B])=dg true z r T:=by
  unfold dg;rw [mZ hB]
 rw [e];have:=bc.part (lo:=0) (hi:=64) (mx:=none) (bc.bytes (v:=z) (n:=r) (T:=T)) (by omega) h (fun _ h=>nomatch h);simpa using this
open Go.RX Go.Proofs Go.RX.Fe Go.RX.Fg Go.RX.Fi Go.RX.Fj Go.RX.Fk Go.RX.Fl
set_option maxRecDepth 100000
noncomputable def BH:F:=nZ Fm.cx 47 ([SV.ptr 0 0,SV.sl 1 (E.lit 0) 1 (E.lit 1) (E.lit 1)]) ([Ck.row 0 true [SV.vv 0,SV.vv 1,SV.int (aqy) (E.lit 4),SV.int (aqy) (E.lit 2),SV.int (aqy) (E.lit 13),SV.int (aqy) (E.lit 22),SV.int (aqy) (E.lit 6),SV.int (aqy) (E.lit 11),SV.int (aqy) (E.lit 25),SV.int (aqy) (E.lit 7),SV.int (aqy) (E.lit 18),SV.int (aqy) (E.lit 3),SV.int (aqy) (E.lit 17),SV.int (aqy) (E.lit 19),SV.int (aqy) (E.lit 10)],Ck.cr true 0 39 1 (E.lit 8) [{ck:=CK.int (Go.IntKind.u32),w:=1,a:=E.cI 0}],Ck.cr true 1 39 1 (E.lit 64) [{ck:=CK.int (Go.IntKind.u32),w:=1,a:=E.cI 1}],Ck.row 1 true [SV.vv 2],Ck.cr false 2 5 1 (E.var 0) [{ck:=CK.int (Go.IntKind.u8),w:=1,a:=E.cI 2}]]) ({b:=2,v:=3,i:=1,a:=3,bo:=0,p:=0,r:=0}) Tryz.f47
def vQ(P:Program)(al:Value→List HP→Prop)(x0:Int)(A0:Nat→Int)(A1:Nat→Int)(A2:Nat→Int)(v0:V1)(v1:V1)(v2:V1)(b0:Nat)(b1:Nat):Prop:=
 ax (0≤x0) (
 ax (x0≤140737488355328) (
 ∀v3:V1,∃(cE:Ext→Prop) (db:Ext→Nat),(∃v4:V1,∃x1:Int,∃A3:(Nat→Int),∃A4:(Nat→Int),v4=v3∧(∀j,j<8→A4 j=A0 j)∧v4=v3∧x1=x0∧(∀j,j<(ag x1)→A3 j=A2 j)∧cE ⟨[],[v4],[x1],[A3,A4],[],[],[]⟩)∧
 ∀v4:V1,∀x1:Int,∀A3:(Nat→Int),∀A4:(Nat→Int),cE ⟨[],[v4],[x1],[A3,A4],[],[],[]⟩→
 ax (0≤x1) (
 br (64≤x1) (
 ∃post,aq P 98 [.pointer (some ⟨b0,0,none⟩),(aE 1 v4.v 0 64 none)] [ak b0 true ([v0.v,v1.v,.int .i64 4,.int .i64 2,.int .i64 13,.int .i64 22,.int .i64 6,.int .i64 11,.int .i64 25,.int .i64 7,.int .i64 18,.int .i64 3,.int .i64 17,.int .i64 19,.int .i64 10]),aB true 39 1 v0.v 8 (aK 8 [aC .u32 1 A4]),aB true 39 1 v1.v 64 (aK 64 [aC .u32 1 A1]),aB true 5 1 v4.v (ag x1) (aK (ag x1) [aC .u8 1 A3])] post∧
 ∀x hs,post x hs→∃A5:(Nat→Int),x= .tuple #[]∧hs=[ak b0 true ([v0.v,v1.v,.int .i64 4,.int .i64 2,.int .i64 13,.int .i64 22,.int .i64 6,.int .i64 11,.int .i64 25,.int .i64 7,.int .i64 18,.int .i64 3,.int .i64 17,.int .i64 19,.int .i64 10]),aB true 39 1 v0.v 8 (aK 8 [aC .u32 1 A5]),aB true 39 1 v1.v 64 (aK 64 [aC .u32 1 A1]),aB true 5 1 v4.v (ag x1) (aK (ag x1) [aC .u8 1 A3])]∧
 ax (64≤x1) (
 ax (0≤(x1 - 64)) (
 ∀v5:V1,∃oV:V1,∃ku:Int,∃p_:(Nat→Int),∃yn:(Nat→Int),oV=v5∧(∀j,j<8→yn j=A5 j)∧oV=v5∧ku=(x1 - 64)∧(∀j,j<(ag ku)→p_ j=(bS A3 64) j)∧cE ⟨[],[oV],[ku],[p_,yn],[],[],[]⟩∧db ⟨[],[oV],[ku],[p_,yn],[],[],[]⟩<db ⟨[],[v4],[x1],[A3,A4],[],[],[]⟩))) (
 ∀b2:Nat,ax ((x1+1)≤140737488355328) (
 ∀v5:V1,∃(oW:Ext→Prop) (tz:Ext→Nat),(∃v6:V1,∃x2:Int,∃A5:(Nat→Int),v6=v5∧v6=v5∧x2=(x1+1)∧(∀j,j<(ag x2)→A5 j=(bQ A3 (ag x1) 1 (aw (fun _=>0) 0 128)) j)∧oW ⟨[],[v6],[x2],[A5],[],[],[]⟩)∧
 ∀v6:V1,∀x2:Int,∀A5:(Nat→Int),oW ⟨[],[v6],[x2],[A5],[],[],[]⟩→
 ax (0≤x2) (
 ax ((-9223372036854775808)≤(x2+8)) (
 ax ((x2+8)≤9223372036854775807) (
 br (¬((ar .rem .i64 (x2+8) 64)=0)) (
 ∀_:Nat,ax (((x2+1)*1)≤140737488355328) (
 ∀v7:V1,∃SM:V1,∃gI:Int,∃BM:(Nat→Int),SM=v7∧SM=v7∧gI=(x2+1)∧(∀j,j<(ag gI)→BM j=(aw A5 (ag x2) 0) j)∧oW ⟨[],[SM],[gI],[BM],[],[],[]⟩∧tz ⟨[],[SM],[gI],[BM],[],[],[]⟩<tz ⟨[],[v6],[x2],[A5],[],[],[]⟩)) (
 ∀v7:V1,ax ((x2+8)≤140737488355328) (
 ∀v8:V1,∃(lZ:Ext→Prop) (py:Ext→Nat),(∃v9:V1,∃x3:Int,∃A6:(Nat→Int),∃A7:(Nat→Int),v9=v8∧(∀j,j<8→A7 j=A4 j)∧v9=v8∧x3=(x2+8)∧(∀j,j<(ag x3)→A6 j=(bQ A5 (ag x2) 8 (aw (aw (aw (aw (aw (aw (aw (aw (fun _=>0) 7 (ae .u8 (ar .shr .u64 (ar .shl .u64 (ae .u64 (ae .u64 x0)) 3) 0))) 6 (ae .u8 (ar .shr .u64 (ar .shl .u64 (ae .u64 (ae .u64 x0)) 3) 8))) 5 (ae .u8 (ar .shr .u64 (ar .shl .u64 (ae .u64 (ae .u64 x0)) 3) 16))) 4 (ae .u8 (ar .shr .u64 (ar .shl .u64 (ae .u64 (ae .u64 x0)) 3) 24))) 3 (ae .u8 (ar .shr .u64 (ar .shl .u64 (ae .u64 (ae .u64 x0)) 3) 32))) 2 (ae .u8 (ar .shr .u64 (ar .shl .u64 (ae .u64 (ae .u64 x0)) 3) 40))) 1 (ae .u8 (ar .shr .u64 (ar .shl .u64 (ae .u64 (ae .u64 x0)) 3) 48))) 0 (ae .u8 (ar .shr .u64 (ar .shl .u64 (ae .u64 (ae .u64 x0)) 3) 56)))) j)∧lZ ⟨[],[v9],[x3],[A6,A7],[],[],[]⟩)∧
 ∀v9:V1,∀x3:Int,∀A6:(Nat→Int),∀A7:(Nat→Int),lZ ⟨[],[v9],[x3],[A6,A7],[],[],[]⟩→
 ax (0≤x3) (
 br (0<x3) (
 ax (64≤x3) (
 ∃post,aq P 98 [.pointer (some ⟨b0,0,none⟩),(aE 1 v9.v 0 64 none)] [ak b0 true ([v0.v,v1.v,.int .i64 4,.int .i64 2,.int .i64 13,.int .i64 22,.int .i64 6,.int .i64 11,.int .i64 25,.int .i64 7,.int .i64 18,.int .i64 3,.int .i64 17,.int .i64 19,.int .i64 10]),aB true 39 1 v0.v 8 (aK 8 [aC .u32 1 A7]),aB true 39 1 v1.v 64 (aK 64 [aC .u32 1 A1]),aB true 5 1 v9.v (ag x3) (aK (ag x3) [aC .u8 1 A6])] post∧
 ∀x hs,post x hs→∃A8:(Nat→Int),x= .tuple #[]∧hs=[ak b0 true ([v0.v,v1.v,.int .i64 4,.int .i64 2,.int .i64 13,.int .i64 22,.int .i64 6,.int .i64 11,.int .i64 25,.int .i64 7,.int .i64 18,.int .i64 3,.int .i64 17,.int .i64 19,.int .i64 10]),aB true 39 1 v0.v 8 (aK 8 [aC .u32 1 A8]),aB true 39 1 v1.v 64 (aK 64 [aC .u32 1 A1]),aB true 5 1 v9.v (ag x3) (aK (ag x3) [aC .u8 1 A6])]∧
 ax (64≤x3) (
 ax (0≤(x3 - 64)) (
 ∀v10:V1,∃v9':V1,∃oU:Int,∃G4:(Nat→Int),∃G5:(Nat→Int),v9'=v10∧(∀j,j<8→G5 j=A8 j)∧v9'=v10∧oU=(x3 - 64)∧(∀j,j<(ag oU)→G4 j=(bS A6 64) j)∧lZ ⟨[],[v9'],[oU],[G4,G5],[],[],[]⟩∧py ⟨[],[v9'],[oU],[G4,G5],[],[],[]⟩<py ⟨[],[v9],[x3],[A6,A7],[],[],[]⟩)))) (
 ∀b3:Nat,∀_:V1,∀_:Nat,∀_:V1,∀_:Nat,∀_:V1,∀_:Nat,∀_:V1,∀_:Nat,∀_:V1,∀_:Nat,∀_:V1,∀_:Nat,∀_:V1,∀_:Nat,∀_:V1,∀_:Nat,∀_:V1,∀_:Nat,∀_:V1,∀_:Nat,∀_:V1,∀_:Nat,∀_:V1,∀_:Nat,∀_:V1,∀_:Nat,∀_:V1,∀_:Nat,∀_:V1,∀_:Nat,∀_:V1,∀_:Nat,∀_:V1,∀_:Nat,∀_:V1,∀_:Nat,∀_:V1,∀_:Nat,∀_:V1,∀_:Nat,∀_:V1,∀_:Nat,∀_:V1,∀_:Nat,∀_:V1,∀_:Nat,∀_:V1,∀_:Nat,∀_:V1,∀_:Nat,∀_:V1,∀_:Nat,∀_:V1,∀_:Nat,∀_:V1,∀_:Nat,∀_:V1,∀_:Nat,∀_:V1,∀_:Nat,∀_:V1,∀_:Nat,∀Kw:V1,al (Kw.v) [ak b0 true ([v0.v,v1.v,.int .i64 4,.int .i64 2,.int .i64 13,.int .i64 22,.int .i64 6,.int .i64 11,.int .i64 25,.int .i64 7,.int .i64 18,.int .i64 3,.int .i64 17,.int .i64 19,.int .i64 10]),aB true 39 1 v0.v 8 (aK 8 [aC .u32 1 A7]),aB true 39 1 v1.v 64 (aK 64 [aC .u32 1 A1]),ak b1 true ([v2.v]),aB false 5 1 v2.v (ag x0) (aK (ag x0) [aC .u8 1 A2]),aB true 5 1 v9.v (ag x3) (aK (ag x3) [aC .u8 1 A6]),ak b2 true ([.int .u8 128]),aB true 5 1 v7.v 8 (aK 8 [aC .u8 1 (aw (aw (aw (aw (aw (aw (aw (aw (fun _=>0) 7 (ae .u8 (ar .shr .u64 (ar .shl .u64 (ae .u64 (ae .u64 x0)) 3) 0))) 6 (ae .u8 (ar .shr .u64 (ar .shl .u64 (ae .u64 (ae .u64 x0)) 3) 8))) 5 (ae .u8 (ar .shr .u64 (ar .shl .u64 (ae .u64 (ae .u64 x0)) 3) 16))) 4 (ae .u8 (ar .shr .u64 (ar .shl .u64 (ae .u64 (ae .u64 x0)) 3) 24))) 3 (ae .u8 (ar .shr .u64 (ar .shl .u64 (ae .u64 (ae .u64 x0)) 3) 32))) 2 (ae .u8 (ar .shr .u64 (ar .shl .u64 (ae .u64 (ae .u64 x0)) 3) 40))) 1 (ae .u8 (ar .shr .u64 (ar .shl .u64 (ae .u64 (ae .u64 x0)) 3) 48))) 0 (ae .u8 (ar .shr .u64 (ar .shl .u64 (ae .u64 (ae .u64 x0)) 3) 56)))]),ak b3 true ([.int .u8 (ae .u8 (ar .shr .u32 (A7 0) 24))]),aB true 5 1 Kw.v 32 (aK 32 [aC .u8 1 (aw (aw (aw (aw (aw (aw (aw (aw (aw (aw (aw (aw (aw (aw (aw (aw (aw (aw (aw (aw (aw (aw (aw (aw (aw (aw (aw (aw (aw (aw (aw (aw (fun _=>0) 0 (ae .u8 (ar .shr .u32 (A7 0) 24))) 1 (ae .u8 (ar .shr .u32 (A7 0) 16))) 2 (ae .u8 (ar .shr .u32 (A7 0) 8))) 3 (ae .u8 (ar .shr .u32 (A7 0) 0))) 4 (ae .u8 (ar .shr .u32 (A7 1) 24))) 5 (ae .u8 (ar .shr .u32 (A7 1) 16))) 6 (ae .u8 (ar .shr .u32 (A7 1) 8))) 7 (ae .u8 (ar .shr .u32 (A7 1) 0))) 8 (ae .u8 (ar .shr .u32 (A7 2) 24))) 9 (ae .u8 (ar .shr .u32 (A7 2) 16))) 10 (ae .u8 (ar .shr .u32 (A7 2) 8))) 11 (ae .u8 (ar .shr .u32 (A7 2) 0))) 12 (ae .u8 (ar .shr .u32 (A7 3) 24))) 13 (ae .u8 (ar .shr .u32 (A7 3) 16))) 14 (ae .u8 (ar .shr .u32 (A7 3) 8))) 15 (ae .u8 (ar .shr .u32 (A7 3) 0))) 16 (ae .u8 (ar .shr .u32 (A7 4) 24))) 17 (ae .u8 (ar .shr .u32 (A7 4) 16))) 18 (ae .u8 (ar .shr .u32 (A7 4) 8))) 19 (ae .u8 (ar .shr .u32 (A7 4) 0))) 20 (ae .u8 (ar .shr .u32 (A7 5) 24))) 21 (ae .u8 (ar .shr .u32 (A7 5) 16))) 22 (ae .u8 (ar .shr .u32 (A7 5) 8))) 23 (ae .u8 (ar .shr .u32 (A7 5) 0))) 24 (ae .u8 (ar .shr .u32 (A7 6) 24))) 25 (ae .u8 (ar .shr .u32 (A7 6) 16))) 26 (ae .u8 (ar .shr .u32 (A7 6) 8))) 27 (ae .u8 (ar .shr .u32 (A7 6) 0))) 28 (ae .u8 (ar .shr .u32 (A7 7) 24))) 29 (ae .u8 (ar .shr .u32 (A7 7) 16))) 30 (ae .u8 (ar .shr .u32 (A7 7) 8))) 31 (ae .u8 (ar .shr .u32 (A7 7) 0)))])]))))))))))))
theorem K9(P:Program)(al:Value→List HP→Prop)(x0:Int)(A0:Nat→Int)(A1:Nat→Int)(A2:Nat→Int)(v0:V1)(v1:V1)(v2:V1)(b0:Nat)(b1:Nat)(L:Nat→LC):VC P (fun v hs=>al v (hs.take 10)) BH {iv:=[x0],av:=[A0,A1,A2],bo:=[],bv:=[b0,b1],vv:=[v0,v1,v2]} L=vQ P al x0 A0 A1 A2 v0 v1 v2 b0 b1:=by kernel_rfl
theorem Hv:nZ Fm.cx 47 ([SV.ptr 0 0,SV.sl 1 (E.lit 0) 1 (E.lit 1) (E.lit 1)]) ([Ck.row 0 true [SV.vv 0,SV.vv 1,SV.int (aqy) (E.lit 4),SV.int (aqy) (E.lit 2),SV.int (aqy) (E.lit 13),SV.int (aqy) (E.lit 22),SV.int (aqy) (E.lit 6),SV.int (aqy) (E.lit 11),SV.int (aqy) (E.lit 25),SV.int (aqy) (E.lit 7),SV.int (aqy) (E.lit 18),SV.int (aqy) (E.lit 3),SV.int (aqy) (E.lit 17),SV.int (aqy) (E.lit 19),SV.int (aqy) (E.lit 10)],Ck.cr true 0 39 1 (E.lit 8) [{ck:=CK.int (Go.IntKind.u32),w:=1,a:=E.cI 0}],Ck.cr true 1 39 1 (E.lit 64) [{ck:=CK.int (Go.IntKind.u32),w:=1,a:=E.cI 1}],Ck.row 1 true [SV.vv 2],Ck.cr false 2 5 1 (E.var 0) [{ck:=CK.int (Go.IntKind.u8),w:=1,a:=E.cI 2}]]) ({b:=2,v:=3,i:=1,a:=3,bo:=0,p:=0,r:=0}) Tryz.f47=BH:=rfl
theorem K_(al:Value→List HP→Prop)(x0:Int)(A0:Nat→Int)(A1:Nat→Int)(A2:Nat→Int)(v0:V1)(v1:V1)(v2:V1)(b0:Nat)(b1:Nat)(h:vQ aqQ al x0 A0 A1 A2 v0 v1 v2 b0 b1):aq aqQ 47 [.pointer (some ⟨b0,0,none⟩),.slice (some ⟨b1,0,none⟩) 1 1] [ak b0 true ([v0.v,v1.v,.int .i64 4,.int .i64 2,.int .i64 13,.int .i64 22,.int .i64 6,.int .i64 11,.int .i64 25,.int .i64 7,.int .i64 18,.int .i64 3,.int .i64 17,.int .i64 19,.int .i64 10]),aB true 39 1 v0.v 8 (aK 8 [aC .u32 1 A0]),aB true 39 1 v1.v 64 (aK 64 [aC .u32 1 A1]),ak b1 true ([v2.v]),aB false 5 1 v2.v (ag x0) (aK (ag x0) [aC .u8 1 A2])] al:=
 aq.post (aq.rA (C:=Fm.cx) (aW:=({b:=2,v:=3,i:=1,a:=3,bo:=0,p:=0,r:=0})) (ρ:={iv:=[x0],av:=[A0,A1,A2],bo:=[],bv:=[b0,b1],vv:=[v0,v1,v2]}) U7 GD U8 Tryz.func47 (by constructor<;>rfl) (al:=(fun v hs=>al v (hs.take 10))) (args:=([Go.RX.SV.ptr 0 0,Go.RX.SV.sl 1 (Go.RX.E.lit 0) 1 (Go.RX.E.lit 1) (Go.RX.E.lit 1)])) (hp:=([Go.RX.Ck.row 0 true [Go.RX.SV.vv 0,Go.RX.SV.vv 1,Go.RX.SV.int (aqy) (Go.RX.E.lit 4),Go.RX.SV.int (aqy) (Go.RX.E.lit 2),Go.RX.SV.int (aqy) (Go.RX.E.lit 13),Go.RX.SV.int (aqy) (Go.RX.E.lit 22),Go.RX.SV.int (aqy) (Go.RX.E.lit 6),Go.RX.SV.int (aqy) (Go.RX.E.lit 11),Go.RX.SV.int (aqy) (Go.RX.E.lit 25),Go.RX.SV.int (aqy) (Go.RX.E.lit 7),Go.RX.SV.int (aqy) (Go.RX.E.lit 18),Go.RX.SV.int (aqy) (Go.RX.E.lit 3),Go.RX.SV.int (aqy) (Go.RX.E.lit 17),Go.RX.SV.int (aqy) (Go.RX.E.lit 19),Go.RX.SV.int (aqy) (Go.RX.E.lit 10)],Go.RX.Ck.cr true 0 39 1 (Go.RX.E.lit 8) [{ck:=Go.RX.CK.int (Go.IntKind.u32),w:=1,a:=Go.RX.E.cI 0}],Go.RX.Ck.cr true 1 39 1 (Go.RX.E.lit 64) [{ck:=Go.RX.CK.int (Go.IntKind.u32),w:=1,a:=Go.RX.E.cI 1}],Go.RX.Ck.row 1 true [Go.RX.SV.vv 2],Go.RX.Ck.cr false 2 5 1 (Go.RX.E.var 0) [{ck:=Go.RX.CK.int (Go.IntKind.u8),w:=1,a:=Go.RX.E.cI 2}]])) Hv (K9 aqQ al x0 A0 A1 A2 v0 v1 v2 b0 b1 (fun _=>LC.none)) h) fun _ hs hq=>⟨_,bJ.sub (List.take_sublist 10 hs),hq⟩
noncomputable def E3:F:=nZ Fm.cx 22 ([SV.sl 0 (E.lit 0) 1 (E.lit 1) (E.lit 1)]) ([Ck.row 0 true [SV.vv 0],Ck.cr false 0 5 1 (E.var 0) [{ck:=CK.int (Go.IntKind.u8),w:=1,a:=E.cI 0}]]) ({b:=1,v:=1,i:=1,a:=1,bo:=0,p:=0,r:=0}) Tryz.f22
def zB(P:Program)(al:Value→List HP→Prop)(x0:Int)(A0:Nat→Int)(v0:V1)(b0:Nat):Prop:=
 ∀b1:Nat,∃post,aq P 46 [] [] post∧
 ∀x hs,post x hs→∃b2:Nat,∃v1:V1,∃v2:V1,∃A1:(Nat→Int),∃A2:(Nat→Int),x= .pointer (some ⟨b2,0,none⟩)∧hs=[ak b2 true ([v1.v,v2.v,.int .i64 4,.int .i64 2,.int .i64 13,.int .i64 22,.int .i64 6,.int .i64 11,.int .i64 25,.int .i64 7,.int .i64 18,.int .i64 3,.int .i64 17,.int .i64 19,.int .i64 10]),aB true 39 1 v1.v 8 (aK 8 [aC .u32 1 A1]),aB true 39 1 v2.v 64 (aK 64 [aC .u32 1 A2])]∧
 ∃post,aq P 47 [.pointer (some ⟨b2,0,none⟩),.slice (some ⟨b0,0,none⟩) 1 1] [ak b2 true ([v1.v,v2.v,.int .i64 4,.int .i64 2,.int .i64 13,.int .i64 22,.int .i64 6,.int .i64 11,.int .i64 25,.int .i64 7,.int .i64 18,.int .i64 3,.int .i64 17,.int .i64 19,.int .i64 10]),aB true 39 1 v1.v 8 (aK 8 [aC .u32 1 A1]),aB true 39 1 v2.v 64 (aK 64 [aC .u32 1 A2]),ak b0 true ([v0.v]),aB false 5 1 v0.v (ag x0) (aK (ag x0) [aC .u8 1 A0])] post∧
 ∀x hs,post x hs→∃v3:V1,∃A3:(Nat→Int),x=v3.v∧hs=[ak b0 true ([v0.v]),aB false 5 1 v0.v (ag x0) (aK (ag x0) [aC .u8 1 A0]),aB true 5 1 v3.v 32 (aK 32 [aC .u8 1 A3])]∧
 al (.agg (aqk (aj .u8 32 A3) ([])).toArray) [HP.emp,HP.emp,ak b1 true (aqk (aj .u8 32 A3) ([])),ak b0 true ([v0.v]),aB false 5 1 v0.v (ag x0) (aK (ag x0) [aC .u8 1 A0]),aB true 5 1 v3.v 32 (aK 32 [aC .u8 1 A3])]
theorem PG(P:Program)(al:Value→List HP→Prop)(x0:Int)(A0:Nat→Int)(v0:V1)(b0:Nat)(L:Nat→LC):VC P al E3 {iv:=[x0],av:=[A0],bo:=[],bv:=[b0],vv:=[v0]} L=zB P al x0 A0 v0 b0:=by kernel_rfl
theorem La:nZ Fm.cx 22 ([SV.sl 0 (E.lit 0) 1 (E.lit 1) (E.lit 1)]) ([Ck.row 0 true [SV.vv 0],Ck.cr false 0 5 1 (E.var 0) [{ck:=CK.int (Go.IntKind.u8),w:=1,a:=E.cI 0}]]) ({b:=1,v:=1,i:=1,a:=1,bo:=0,p:=0,r:=0}) Tryz.f22=E3:=rfl
theorem PH(al:Value→List HP→Prop)(x0:Int)(A0:Nat→Int)(v0:V1)(b0:Nat)(h:zB aqQ al x0 A0 v0 b0):aq aqQ 22 [.slice (some ⟨b0,0,none⟩) 1 1] [ak b0 true ([v0.v]),aB false 5 1 v0.v (ag x0) (aK (ag x0) [aC .u8 1 A0])] al:=
 aq.post (aq.rA (C:=Fm.cx) (aW:=({b:=1,v:=1,i:=1,a:=1,bo:=0,p:=0,r:=0})) (ρ:={iv:=[x0],av:=[A0],bo:=[],bv:=[b0],vv:=[v0]}) U7 GD U8 Tryz.func22 (by constructor<;>rfl) (al:=al) (args:=([Go.RX.SV.sl 0 (Go.RX.E.lit 0) 1 (Go.RX.E.lit 1) (Go.RX.E.lit 1)])) (hp:=([Go.RX.Ck.row 0 true [Go.RX.SV.vv 0],Go.RX.Ck.cr false 0 5 1 (Go.RX.E.var 0) [{ck:=Go.RX.CK.int (Go.IntKind.u8),w:=1,a:=Go.RX.E.cI 0}]])) La (PG aqQ al x0 A0 v0 b0 (fun _=>LC.none)) h) fun _ hs hq=>⟨_,bJ.refl hs,hq⟩
end Go.RX.Fm
