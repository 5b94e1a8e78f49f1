/- Sums. -/
import Derived.Test.YtmgbbbmdbpbeeaaFmF
import Derived.Test.YtmgbbbmdbpbeeaaM35
import Derived.Test.YtmgbbbmdbpbeeaaM27
open Go.IntKind renaming wrap → ae
open Go.Proofs.Try renaming prog → adE
open Int renaming natCast_add → adH, toNat → ag
open List renaming getD_cons_succ → adx, getD_cons_zero → ah, getElem?_append_left → adz, getElem?_append_right → adA, getElem?_eq_getElem → ad8, getElem?_eq_some_iff → adu, mem_cons → adW, not_mem_nil → adP
open List.cons renaming injEq → adF
open Nat renaming mod_eq_of_lt → adQ
open Option.some renaming injEq → adv
namespace Go.RX.Fm
open Go Go.RX Go.Proofs Go.RX.Sh Go.RX.Fg Go.RX.Fj Go.RX.Fk
theorem PX{x:Int}(h0:0≤x)(h1:x≤64):ae .i64 (ak .quo .i64 x 4)=((x.toNat/4:Nat):Int):=by
 obtain⟨i,rfl⟩:=Int.eq_ofNat_of_zero_le h0;show ae .i64 (Int.tdiv (i:Int) 4)=_;have:Int.tdiv (i:Int) 4=((i/4:Nat):Int):=rfl;rw [this,Int.toNat_natCast];simp [ae,IntKind.signed,IntKind.bits];omega
abbrev i_(b:Nat)(vh vk:V1):HP:=aq b true [vh.v,vk.v,.int .i64 4,.int .i64 2,.int .i64 13,.int .i64 22,.int .i64 6,.int .i64 11,.int .i64 25,.int .i64 7,.int .i64 18,.int .i64 3,.int .i64 17,.int .i64 19,.int .i64 10]
theorem MV{B:Nat→Nat}{A:Nat→Int}(hB: ∀j,j<64→B j<256){t:Int}(h0:16≤t)(h1:t<64)(hA: ∀j,j<64→A j=((fy B (t.toNat - 16) j:Nat):Int))(j:Nat)(hj:j<64):
  ao A (ag t) (ae .u32 ((ae .u32 ((ae .u32 ((ak .aD .u32 (ak .aD .u32 (ak .bJ .u32 (ak .shr .u32 (A (ag (t - 2))) 17) (ak .shl .u32 (A (ag (t - 2))) 15)) (ak .bJ .u32 (ak .shr .u32 (A (ag (t - 2))) 19) (ak .shl .u32 (A (ag (t - 2))) 13))) (ak .shr .u32 (A (ag (t - 2))) 10))+(A (ag (t - 7)))))+(ak .aD .u32 (ak .aD .u32 (ak .bJ .u32 (ak .shr .u32 (A (ag (t - 15))) 7) (ak .shl .u32 (A (ag (t - 15))) 25)) (ak .bJ .u32 (ak .shr .u32 (A (ag (t - 15))) 18) (ak .shl .u32 (A (ag (t - 15))) 14))) (ak .shr .u32 (A (ag (t - 15))) 3))))+(A (ag (t - 16))))) j
   =((fy B (t.toNat - 16+1) j:Nat):Int):=by
 have hl:=Mt hB (t.toNat - 16);obtain⟨n,hn⟩: ∃n,n=t.toNat - 16:=⟨_,rfl⟩;rw [←hn]at hA hl ⊢;rw [fy];unfold ao;dsimp only;by_cases SP:j=t.toNat
 ·rw [if_pos SP,if_pos (by omega)];rw [hA (ag (t - 2)) (by omega),hA (ag (t - 7)) (by omega),hA (ag (t - 15)) (by omega),hA (ag (t - 16)) (by omega)];rw [show ag (t - 2)=n+14 by omega,show ag (t - 7)=n+9 by omega,show ag (t - 15)=n+1 by omega,show ag (t - 16)=n by omega];rw [XL (hl _),XK (hl _),pr,pr,pr];congr 1;omega
 ·rw [if_neg SP,if_neg (by omega)];exact hA j hj
theorem P6{v:Nat→Nat}(hv: ∀j,j<8→v j<2^32)(k w:Nat):
  ae .u32 ((ae .u32 ((ae .u32 ((ae .u32 (((v 7:Nat):Int)+(ak .aD .u32 (ak .aD .u32 (ak .bJ .u32 (ak .shr .u32 ((v 4:Nat):Int) 6) (ak .shl .u32 ((v 4:Nat):Int) 26)) (ak .bJ .u32 (ak .shr .u32 ((v 4:Nat):Int) 11) (ak .shl .u32 ((v 4:Nat):Int) 21))) (ak .bJ .u32 (ak .shr .u32 ((v 4:Nat):Int) 25) (ak .shl .u32 ((v 4:Nat):Int) 7)))))+(ak .aD .u32 (ak .aQ .u32 ((v 4:Nat):Int) ((v 5:Nat):Int)) (ak .aQ .u32 (ak .aD .u32 4294967295 ((v 4:Nat):Int)) ((v 6:Nat):Int)))))+((k:Nat):Int)))+((w:Nat):Int))=((EA v k w:Nat):Int):=by
 rw [XN (hv 4 (by omega)),XO (hv 4 (by omega)) (hv 5 (by omega)) (hv 6 (by omega)),pr,pr,pr,pr];unfold EA;congr 1;omega
theorem MW{v:Nat→Nat}(hv: ∀j,j<8→v j<2^32):
  ae .u32 ((ak .aD .u32 (ak .aD .u32 (ak .bJ .u32 (ak .shr .u32 ((v 0:Nat):Int) 2) (ak .shl .u32 ((v 0:Nat):Int) 30)) (ak .bJ .u32 (ak .shr .u32 ((v 0:Nat):Int) 13) (ak .shl .u32 ((v 0:Nat):Int) 19))) (ak .bJ .u32 (ak .shr .u32 ((v 0:Nat):Int) 22) (ak .shl .u32 ((v 0:Nat):Int) 10)))+(ak .aD .u32 (ak .aD .u32 (ak .aQ .u32 ((v 0:Nat):Int) ((v 1:Nat):Int)) (ak .aQ .u32 ((v 0:Nat):Int) ((v 2:Nat):Int))) (ak .aQ .u32 ((v 1:Nat):Int) ((v 2:Nat):Int))))=(((S0 (v 0)+UY (v 0) (v 1) (v 2))%2^32:Nat):Int):=by
 rw [XM (hv 0 (by omega)),U1 (hv 0 (by omega)) (hv 1 (by omega)) (hv 2 (by omega)),pr]
def eight(v:Nat→Nat)(a:Nat):List Int:=[((v 0:Nat):Int),((v 1:Nat):Int),((v 2:Nat):Int),((v 3:Nat):Int),((v 4:Nat):Int),((v 5:Nat):Int),((v 6:Nat):Int),((v 7:Nat):Int),(a:Int)]
theorem GU(v:Nat→Nat)(k w a:Nat):[(((EA v k w+(S0 (v 0)+UY (v 0) (v 1) (v 2))%2^32)%2^32:Nat):Int),((v 0:Nat):Int),((v 1:Nat):Int),((v 2:Nat):Int),(((v 3+EA v k w)%2^32:Nat):Int),((v 4:Nat):Int),((v 5:Nat):Int),((v 6:Nat):Int),(a:Int)+1]=eight (Sh.step v k w) (a+1):=by
 unfold eight;rw [Sr,Ss,tW v k w (j:=1) (by decide) (by decide) (by decide),tW v k w (j:=2) (by decide) (by decide) (by decide),tW v k w (j:=3) (by decide) (by decide) (by decide),tW v k w (j:=5) (by decide) (by decide) (by decide),
  tW v k w (j:=6) (by decide) (by decide) (by decide),tW v k w (j:=7) (by decide) (by decide) (by decide),adH a 1]
 simp only [Int.natCast_one]
theorem P7{K H B R:Nat→Nat}(hR:R=TA K (fy B 48) H 64)(j:Nat):comp K H B j=(H j+R j)%2^32:=by
 unfold comp;rw [hR]
abbrev bQ(v:V1)(n:Nat)(A:Nat→Int):HP:=au true 115 1 v.v n (aK n [aJ .u32 1 A])
theorem pF(b:Nat)(vh vk vb:V1)(A0 A1 A2:Nat→Int)(K H B:Nat→Nat)(s6: ∀j,j<8→A0 j=(H j:Nat))(hH: ∀j,j<8→H j<2^32)
  (tZ: ∀j,j<64→A1 j=(K j:Nat)) (hA2: ∀j,j<64→A2 j=(B j:Nat)) (hB: ∀j,j<64→B j<256):
  ar adE 73 [.pointer (some ⟨b,0,none⟩),vb.v] [i_ b vh vk,bQ vh 8 A0,bQ vk 64 A1,au false 5 1 vb.v 64 (aK 64 [aJ .u8 1 A2])]
   (fun r hs=> ∃A:Nat→Int,r= .tuple #[]∧hs=[i_ b vh vk,bQ vh 8 A,bQ vk 64 A1]∧∀j,j<8→A j=((comp K H B j:Nat):Int)):=by
 refine Df _ A0 A1 A2 vh vk vb b ?_;unfold mI;intro v3;refine⟨fun e=> ∃a:Nat,a≤64∧e.i=[(a:Int)]∧∀j,j<64→e.a.getD 0 (fun _=>0) j=((fill B a j:Nat):Int),fun e=>(64 - e.i.getD 0 0).toNat,⟨0,fun _=>0,rfl,fun _ _=>rfl,0,by omega,rfl,fun j _=>rfl⟩,?_⟩;rintro x1 A3 ⟨a,ha,hx,hA⟩;simp only [adF,and_true]at hx;subst hx;simp only [ah]at hA;have hq:=PX (x:=(a:Int)) (by omega) (by omega);refine⟨fun bP=>⟨by rw [hq];omega,fun _=>⟨by rw [hq];omega,fun _=>⟨by omega,fun _=>⟨by omega,fun _=>⟨by omega,fun _=>?_⟩⟩⟩⟩⟩,fun ig=>?_⟩
 ·refine⟨(a:Int)+1,_,rfl,fun _ _=>rfl,⟨a+1,by omega,rfl,fun j hj=>?_⟩,?_⟩
  ·simp only [ah];rw [hq,Int.toNat_natCast,Int.toNat_natCast,fill];unfold ao;dsimp only;by_cases SP:j=a/4
   ·rw [if_pos SP,if_pos SP,hA _ (by omega),hA2 a (by omega),wrap_u32];have hb:=hB a (by omega);rw [adQ (by omega),show ak .shl .u32 ((fill B a (a/4):Nat):Int) 8=_ from Q8 (fill B a (a/4)) 8 (by decide),UZ (Nat.mod_lt _ (Nat.two_pow_pos 32)) (by omega)]
   ·rw [if_neg SP,if_neg SP];exact hA j hj
  ·simp only [ah];omega
 have MX:a=64:=by omega
 subst MX;refine⟨fun e=> ∃a:Nat,16≤a∧a≤64∧e.i=[(a:Int)]∧∀j,j<64→e.a.getD 0 (fun _=>0) j=((fy B (a - 16) j:Nat):Int),fun e=>(64 - e.i.getD 0 0).toNat,⟨16,A3,rfl,fun _ _=>rfl,16,by omega,by omega,rfl,fun j hj=>?_⟩,?_⟩
 ·simp only [ah];rw [hA j hj,Mv hB]
 rintro x2 A4 ⟨a,P8,ha,hx,X_⟩;simp only [adF,and_true]at hx;subst hx;simp only [ah]at X_;refine⟨fun bP=>⟨by omega,fun _=>⟨by omega,fun _=>⟨by omega,fun _=>⟨by omega,fun _=>⟨by omega,fun _=>⟨by omega,fun _=>⟨by omega,fun _=>⟨by omega,fun _=>⟨by omega,fun _=>⟨by omega,fun _=>⟨by omega,fun _=>⟨by omega,fun _=>⟨by omega,fun _=>⟨by omega,fun _=>⟨by omega,fun _=>⟨by omega,fun _=>fun b1 b2=>⟨by omega,fun _=>⟨by omega,fun _=>⟨by omega,fun _=>?_⟩⟩⟩⟩⟩⟩⟩⟩⟩⟩⟩⟩⟩⟩⟩⟩⟩⟩⟩,fun ig=>fun b1=>?_⟩
 ·refine⟨(a:Int)+1,_,rfl,fun _ _=>rfl,⟨a+1,by omega,by omega,rfl,fun j hj=>?_⟩,?_⟩
  ·simp only [ah];have:=MV hB (t:=(a:Int)) (by omega) (by omega) (A:=A4) (by rw [Int.toNat_natCast];exact X_) j hj;rw [this,Int.toNat_natCast,show a - 16+1=a+1 - 16 by omega]
  ·simp only [ah];omega
 have MX:a=64:=by omega
 subst MX;have hv:=Mu (K:=K) (W:=fy B 48) hH;refine⟨fun e=> ∃a:Nat,a≤64∧e.i=eight (TA K (fy B 48) H a) a,fun e=>(64 - e.i.getD 8 0).toNat,⟨_,_,_,_,_,_,_,_,0,rfl,(s6 0 (by omega)).symm,(s6 1 (by omega)).symm,(s6 2 (by omega)).symm,(s6 3 (by omega)).symm,(s6 4 (by omega)).symm,(s6 5 (by omega)).symm,(s6 6 (by omega)).symm,(s6 7 (by omega)).symm,0,by omega,rfl⟩,?_⟩;rintro x3 x4 x5 x6 x7 x8 x9 eK ib ⟨a,ha,hx⟩;simp only [eight,adF,and_true]at hx;obtain⟨rfl,rfl,rfl,rfl,rfl,rfl,rfl,rfl,rfl⟩:=hx;refine⟨fun bP=>⟨by omega,fun _=>fun b2 b3=>⟨by omega,fun _=>⟨by omega,fun _=>?_⟩⟩⟩,fun ig=>?_⟩
 ·refine⟨_,_,_,_,_,_,_,_,(a:Int)+1,rfl,rfl,rfl,rfl,rfl,rfl,rfl,rfl,rfl,⟨a+1,by omega,?_⟩,?_⟩
  ·have hk:A1 (ag (a:Int))=((K a:Nat):Int):=by rw [Int.toNat_natCast];exact tZ a (by omega)
   have hw:A4 (ag (a:Int))=((fy B 48 a:Nat):Int):=by rw [Int.toNat_natCast];exact X_ a (by omega)
   rw [hk,hw,P6 (hv a),MW (hv a),pr,pr];exact GU _ _ _ _
  ·simp only [ah,adx];omega
 have MX:a=64:=by omega
 subst MX;obtain⟨R,hR⟩: ∃R:Nat→Nat,R=TA K (fy B 48) H 64:=⟨_,rfl⟩;have hc:=P7 hR;rw [←hR];refine⟨fun e=> ∃a:Nat,a≤8∧e.i=[(a:Int)]∧(∀j,j<8→e.a.getD 1 (fun _=>0) j=((R j:Nat):Int))∧∀j,j<8→e.a.getD 0 (fun _=>0) j=(((if j<a then comp K H B j else H j):Nat):Int),fun e=>(8 - e.i.getD 0 0).toNat,
  ⟨0,A0,_,rfl,fun _ _=>rfl,fun _ _=>rfl,0,by omega,rfl,fun j hj=>?_,fun j hj=>?_⟩,?_⟩
 ·simp only [ah,adx];unfold ao
  match j,hj with
  | 0,_=>rfl
  | 1,_=>rfl
  | 2,_=>rfl
  | 3,_=>rfl
  | 4,_=>rfl
  | 5,_=>rfl
  | 6,_=>rfl
  | 7,_=>rfl
 ·simp only [ah];rw [if_neg (by omega)];exact s6 j hj
 rintro ic A5 A6 ⟨a,ha,hx,h6,h5⟩;simp only [adF,and_true]at hx;subst hx;simp only [ah,adx]at h6 h5;refine⟨fun bP=>⟨by omega,fun _=>⟨by omega,fun _=>⟨by omega,fun _=>?_⟩⟩⟩,fun ig=>?_⟩
 ·refine⟨(a:Int)+1,_,A6,rfl,fun _ _=>rfl,fun _ _=>rfl,⟨a+1,by omega,rfl,h6,fun j hj=>?_⟩,?_⟩
  ·simp only [ah];rw [Int.toNat_natCast];unfold ao;by_cases SQ:j=a
   ·subst SQ;rw [if_pos rfl,if_pos (by omega),h5 j hj,h6 j hj,if_neg (by omega),pr,hc]
   ·rw [if_neg SQ,h5 j hj];by_cases h:j<a
    ·rw [if_pos h,if_pos (by omega)]
    ·rw [if_neg h,if_neg (by omega)]
  ·simp only [ah];omega
 have ha8:a=8:=by omega
 subst ha8;refine⟨A5,rfl,rfl,fun j hj=>?_⟩;rw [h5 j hj,if_pos hj]
theorem Rf{A:Nat→Int}{C:Nat→Nat}(h: ∀j,j<8→A j=((C j:Nat):Int))(j:Nat)(hj:j<32):
  (ao (ao (ao (ao (ao (ao (ao (ao (ao (ao (ao (ao (ao (ao (ao (ao (ao (ao (ao (ao (ao (ao (ao (ao (ao (ao (ao (ao (ao (ao (ao (ao (fun _=>0) 0 (ae .u8 (ak .shr .u32 (A 0) 24))) 1 (ae .u8 (ak .shr .u32 (A 0) 16))) 2 (ae .u8 (ak .shr .u32 (A 0) 8))) 3 (ae .u8 (ak .shr .u32 (A 0) 0))) 4 (ae .u8 (ak .shr .u32 (A 1) 24))) 5 (ae .u8 (ak .shr .u32 (A 1) 16))) 6 (ae .u8 (ak .shr .u32 (A 1) 8))) 7 (ae .u8 (ak .shr .u32 (A 1) 0))) 8 (ae .u8 (ak .shr .u32 (A 2) 24))) 9 (ae .u8 (ak .shr .u32 (A 2) 16))) 10 (ae .u8 (ak .shr .u32 (A 2) 8))) 11 (ae .u8 (ak .shr .u32 (A 2) 0))) 12 (ae .u8 (ak .shr .u32 (A 3) 24))) 13 (ae .u8 (ak .shr .u32 (A 3) 16))) 14 (ae .u8 (ak .shr .u32 (A 3) 8))) 15 (ae .u8 (ak .shr .u32 (A 3) 0))) 16 (ae .u8 (ak .shr .u32 (A 4) 24))) 17 (ae .u8 (ak .shr .u32 (A 4) 16))) 18 (ae .u8 (ak .shr .u32 (A 4) 8))) 19 (ae .u8 (ak .shr .u32 (A 4) 0))) 20 (ae .u8 (ak .shr .u32 (A 5) 24))) 21 (ae .u8 (ak .shr .u32 (A 5) 16))) 22 (ae .u8 (ak .shr .u32 (A 5) 8))) 23 (ae .u8 (ak .shr .u32 (A 5) 0))) 24 (ae .u8 (ak .shr .u32 (A 6) 24))) 25 (ae .u8 (ak .shr .u32 (A 6) 16))) 26 (ae .u8 (ak .shr .u32 (A 6) 8))) 27 (ae .u8 (ak .shr .u32 (A 6) 0))) 28 (ae .u8 (ak .shr .u32 (A 7) 24))) 29 (ae .u8 (ak .shr .u32 (A 7) 16))) 30 (ae .u8 (ak .shr .u32 (A 7) 8))) 31 (ae .u8 (ak .shr .u32 (A 7) 0))) j=((Sh.bytesOf C j:Nat):Int):=by
 rw [h 0 (by omega),h 1 (by omega),h 2 (by omega),h 3 (by omega),h 4 (by omega),h 5 (by omega),h 6 (by omega),h 7 (by omega)];have:j=0∨j=1∨j=2∨j=3∨j=4∨j=5∨j=6∨j=7∨j=8∨j=9∨j=10∨j=11∨j=12∨j=13∨j=14∨j=15∨j=16∨j=17∨j=18∨j=19∨j=20∨j=21∨j=22∨j=23∨j=24∨j=25∨j=26∨j=27∨j=28∨j=29∨j=30∨j=31:=by omega
 clear hj h;rcases this with rfl | rfl | rfl | rfl | rfl | rfl | rfl | rfl | rfl | rfl | rfl | rfl | rfl | rfl | rfl | rfl | rfl | rfl | rfl | rfl | rfl | rfl | rfl | rfl | rfl | rfl | rfl | rfl | rfl | rfl | rfl | rfl
 ·exact bO (C 0) 24 (by decide)
 ·exact bO (C 0) 16 (by decide)
 ·exact bO (C 0) 8 (by decide)
 ·exact bO (C 0) 0 (by decide)
 ·exact bO (C 1) 24 (by decide)
 ·exact bO (C 1) 16 (by decide)
 ·exact bO (C 1) 8 (by decide)
 ·exact bO (C 1) 0 (by decide)
 ·exact bO (C 2) 24 (by decide)
 ·exact bO (C 2) 16 (by decide)
 ·exact bO (C 2) 8 (by decide)
 ·exact bO (C 2) 0 (by decide)
 ·exact bO (C 3) 24 (by decide)
 ·exact bO (C 3) 16 (by decide)
 ·exact bO (C 3) 8 (by decide)
 ·exact bO (C 3) 0 (by decide)
 ·exact bO (C 4) 24 (by decide)
 ·exact bO (C 4) 16 (by decide)
 ·exact bO (C 4) 8 (by decide)
 ·exact bO (C 4) 0 (by decide)
 ·exact bO (C 5) 24 (by decide)
 ·exact bO (C 5) 16 (by decide)
 ·exact bO (C 5) 8 (by decide)
 ·exact bO (C 5) 0 (by decide)
 ·exact bO (C 6) 24 (by decide)
 ·exact bO (C 6) 16 (by decide)
 ·exact bO (C 6) 8 (by decide)
 ·exact bO (C 6) 0 (by decide)
 ·exact bO (C 7) 24 (by decide)
 ·exact bO (C 7) 16 (by decide)
 ·exact bO (C 7) 8 (by decide)
 ·exact bO (C 7) 0 (by decide)
end Go.RX.Fm

namespace Go.RX.Sh
open Go.RX Go.RX.Fk
def rz(M:Nat→Nat):Nat→Nat→Nat
 | 0=>H0
 | q+1=>comp K0 (rz M q) (fun i=>M (64*q+i))
theorem lv(M:Nat→Nat): ∀q j,j<8→rz M q j<2^32
 | 0,j,hj=>U3 j hj
 | _+1,j,_=>PG j
def lE(n:Nat):Nat:=64*((n+8)/64+1)
def cM(n:Nat)(M:Nat→Nat)(j:Nat):Nat:=if j<n then M j else if j=n then 128 else if j<lE n - 8 then 0 else ew (n*8) (j - (lE n - 8))
theorem Ix{M:Nat→Nat}(hM: ∀j,M j<256)(n j:Nat):cM n M j<256:=by
 unfold cM;split
 ·exact hM j
 split
 ·decide
 split
 ·decide
 ·exact wH _ _
def gF(n:Nat)(M:Nat→Nat):Nat→Nat:=Sh.bytesOf (rz (cM n M) ((n+8)/64+1))
theorem Iy(n:Nat)(M:Nat→Nat)(j:Nat):gF n M j<256:=Mw _ j
theorem GV{n:Nat}{M M':Nat→Nat}(h: ∀j,j<n→M j=M' j):gF n M=gF n M':=by
 have:cM n M=cM n M':=by
  funext j;unfold cM;split
  ·rename_i c;exact h j c
  ·rfl
 unfold gF;rw [this]
def ey(n:Nat)(A B:Nat→Nat)(j:Nat):Nat:=if j<n then A j else B (j - n)
theorem jb{A B:Nat→Nat}(hA: ∀j,A j<256)(hB: ∀j,B j<256)(n j:Nat):ey n A B j<256:=by
 unfold ey;split
 ·exact hA _
 ·exact hB _
theorem fB{n:Nat}{A B:Nat→Nat}{j:Nat}(h:j<n):ey n A B j=A j:=by unfold ey;rw [if_pos h]
theorem bD(n:Nat)(A B:Nat→Nat)(j:Nat):ey n A B (n+j)=B j:=by unfold ey;rw [if_neg (by omega),Nat.add_sub_cancel_left]
def j6(kn:Nat)(K:Nat→Nat)(w j:Nat):Nat:=(if j<kn then K j else 0)^^^w
theorem Cp{K:Nat→Nat}(hK: ∀j,K j<256){w:Nat}(hw:w<256)(kn j:Nat):j6 kn K w j<256:=by
 unfold j6;refine Ae.aS ?_ hw;split
 ·exact hK _
 ·decide
def Cq(kn:Nat)(K:Nat→Nat)(n:Nat)(M:Nat→Nat):Nat→Nat:=gF 96 (ey 64 (j6 kn K 92) (gF (64+n) (ey 64 (j6 kn K 54) M)))
theorem P9(kn:Nat)(K:Nat→Nat)(n:Nat)(M:Nat→Nat)(j:Nat):Cq kn K n M j<256:=Iy _ _ j
theorem GX{kn:Nat}{K:Nat→Nat}{n:Nat}{M M':Nat→Nat}(h: ∀j,j<n→M j=M' j):Cq kn K n M=Cq kn K n M':=by
 unfold Cq;rw [GV (n:=64+n) (M:=ey 64 (j6 kn K 54) M) (M':=ey 64 (j6 kn K 54) M')];intro j hj;unfold ey;split
 ·rfl
 ·exact h _ (by omega)
theorem lb{n:Nat}(h:n<2^60)(s:Nat)(hs:s≤64):ae .u8 (ak .shr .u64 (ak .shl .u64 (n:Int) 3) (s:Int))=((n*8/2^s%256:Nat):Int):=by
 have h1:ak .shl .u64 (n:Int) 3=((n*8:Nat):Int):=by
  have:=Fh.yw n 3 (by decide);rw [show((3:Nat):Int)=3 from rfl]at this;rw [this];congr 1;omega
 rw [h1,fM .u64 _ s hs,wrap_u8,Nat.shiftRight_eq_div_pow]
theorem MY{n:Nat}(h:n<2^60)(j:Nat)(hj:j<8):
  (ao (ao (ao (ao (ao (ao (ao (ao (fun _=>0) 7 (ae .u8 (ak .shr .u64 (ak .shl .u64 (n:Int) 3) 0))) 6 (ae .u8 (ak .shr .u64 (ak .shl .u64 (n:Int) 3) 8))) 5 (ae .u8 (ak .shr .u64 (ak .shl .u64 (n:Int) 3) 16))) 4 (ae .u8 (ak .shr .u64 (ak .shl .u64 (n:Int) 3) 24))) 3 (ae .u8 (ak .shr .u64 (ak .shl .u64 (n:Int) 3) 32))) 2 (ae .u8 (ak .shr .u64 (ak .shl .u64 (n:Int) 3) 40))) 1 (ae .u8 (ak .shr .u64 (ak .shl .u64 (n:Int) 3) 48))) 0 (ae .u8 (ak .shr .u64 (ak .shl .u64 (n:Int) 3) 56))) j=(ew (n*8) j:Nat):=by
 unfold ew
 match j,hj with
 | 0,_=>exact lb h 56 (by decide)
 | 1,_=>exact lb h 48 (by decide)
 | 2,_=>exact lb h 40 (by decide)
 | 3,_=>exact lb h 32 (by decide)
 | 4,_=>exact lb h 24 (by decide)
 | 5,_=>exact lb h 16 (by decide)
 | 6,_=>exact lb h 8 (by decide)
 | 7,_=>exact lb h 0 (by decide)
 | j+8,h=>exact absurd h (by omega)
end Go.RX.Sh

namespace Go.RX
theorem bU.idx{a b:List HP}(idx:List Nat)(fQ:idx.Nodup)(h: ∀(j:Nat) x,b[j]? =some x→∃i,idx[j]? =some i∧a[i]? =some x):bU a b:=by
 intro w Fs o;refine o.ss (fun j=>if j<b.length then idx[j]? else some (a.length+(j - b.length))) ?_ ?_
 ·intro j x hx;right;by_cases hj:j<b.length
  ·rw [adz hj]at hx;obtain⟨i,h1,h2⟩:=h j x hx;refine⟨i,by simp only [hj,if_true,h1],?_⟩;rw [adz (adu.1 h2).1];exact h2
  ·rw [adA (by omega)]at hx;refine⟨_,by simp only [hj,if_false];rfl,?_⟩;rw [adA (by omega),Nat.add_sub_cancel_left];exact hx
 ·intro j j' i hj kz _ _;by_cases h1:j<b.length
  ·have hx:b[j]? =some b[j]:=ad8 h1;obtain⟨i1,q1,q2⟩:=h j _ hx;have FP:=(adu.1 q2).1;simp only [h1,if_true,q1,adv]at hj;subst hj;by_cases h2:j'<b.length
   ·simp only [h2,if_true]at kz;obtain⟨l1,e1⟩:=adu.1 q1;obtain⟨l2,e2⟩:=adu.1 kz;exact(List.getElem_inj fQ).1 (e1.trans e2.symm)
   ·simp only [h2,if_false,adv]at kz;omega
  ·simp only [h1,if_false,adv]at hj;by_cases h2:j'<b.length
   ·have hx:b[j']? =some b[j']:=ad8 h2;obtain⟨i1,q1,q2⟩:=h j' _ hx;have FP:=(adu.1 q2).1;simp only [h2,if_true,q1,adv]at kz;omega
   ·simp only [h2,if_false,adv]at kz;omega
theorem bU.at3{a:List HP}{i j k:Nat}{x y z:HP}(hi:a[i]? =some x)(hj:a[j]? =some y)(hk:a[k]? =some z)(hn:[i,j,k].Nodup):bU a [x,y,z]:=by
 refine bU.idx [i,j,k] hn fun m u hu=>?_
 match m,hu with
 | 0,hu=>cases hu;exact⟨i,rfl,hi⟩
 | 1,hu=>cases hu;exact⟨j,rfl,hj⟩
 | 2,hu=>cases hu;exact⟨k,rfl,hk⟩
 | m+3,hu=>simp at hu
end Go.RX
namespace Go.RX.Fm
open Go Go.RX Go.Proofs Go.RX.Sh Go.RX.Fg Go.RX.Fj Go.RX.Fk
set_option maxRecDepth 100000 in
theorem iI:ar adE 60 [] [] (fun r hs=> ∃b:Nat,∃vh vk:V1,∃A B:Nat→Int,r= .pointer (some ⟨b,0,none⟩)∧
  hs=[i_ b vh vk,bQ vh 8 A,bQ vk 64 B]∧(∀j,j<8→A j=((H0 j:Nat):Int))∧∀j,j<64→B j=((K0 j:Nat):Int)):=by
 refine ar.post (p:=fun r hs=> ∃b:Nat,∃vh vk:V1,∃A B:Nat→Int,r= .pointer (some ⟨b,0,none⟩)∧hs[2]? =some (bQ vh 8 A)∧hs[12]? =some (bQ vk 64 B)∧
  hs[76]? =some (i_ b vh vk)∧(∀j,j<8→A j=((H0 j:Nat):Int))∧∀j,j<64→B j=((K0 j:Nat):Int)) ?_ ?_
 rotate_left
 ·rintro r hs ⟨b,vh,vk,A,B,rfl,h1,h2,h3,h4,h5⟩;exact⟨_,bU.at3 h3 h1 h2 (by decide),b,vh,vk,A,B,rfl,rfl,h4,h5⟩
 refine I6 _ ?_;unfold zZ
 intros
 exact⟨_,_,_,_,_,rfl,rfl,rfl,rfl,by decide+kernel,by decide+kernel⟩
theorem du{B:List HP}{x:Value}(b:Nat)(vh vk:V1)(hx:x.oneCell'=true)(A0 A1:Nat→Int)(K H T:Nat→Nat)(s6: ∀j,j<8→A0 j=(H j:Nat))(hH: ∀j,j<8→H j<2^32)
  (tZ: ∀j,j<64→A1 j=(K j:Nat)) (hT: ∀j,T j<256) (hb:ay B (aL x 64 T)):
  ar adE 73 [.pointer (some ⟨b,0,none⟩),x] ([i_ b vh vk,bQ vh 8 A0,bQ vk 64 A1]++B)
   fun r hs=> ∃A:Nat→Int,r= .tuple #[]∧hs=[i_ b vh vk,bQ vh 8 A,bQ vk 64 A1]++B∧∀j,j<8→A j=((comp K H T j:Nat):Int):=by
 have hm:ar adE 73 [.pointer (some ⟨b,0,none⟩),x] ([i_ b vh vk,bQ vh 8 A0,bQ vk 64 A1]++[aL x 64 T]) fun r hs=> ∃A:Nat→Int,r= .tuple #[]∧hs=[i_ b vh vk,bQ vh 8 A,bQ vk 64 A1]∧∀j,j<8→A j=((comp K H T j:Nat):Int):=
  pF b vh vk ⟨x,hx⟩ A0 A1 (fun j=>(T j:Nat)) K H T s6 hH tZ (fun _ _=>rfl) (fun j _=>hT j)
 refine ar.post (ar.Pl hm ?_ (iZ hb)) ?_
 ·rintro v hs ⟨A,_,rfl,_⟩ h hh;simp only [adW,adP,or_false]at hh;rcases hh with rfl | rfl | rfl<;>rfl
 ·rintro v hs ⟨BM,⟨A,hr,rfl,hA⟩,rfl⟩;exact⟨_,bU.refl _,A,hr,rfl,hA⟩
theorem lx{z:V1}{r:Nat}{B:Nat→Int}{T:Nat→Nat}(h:64≤r)(hB: ∀j,j<r→B j=(T j:Nat)):ay [au true 5 1 z.v r (aK r [aJ .u8 1 B])] (aL (aC 1 z.v 0 64 none) 64 T):=by
 have e:au true 5 1 z.v r (aK r [aJ .u8 1 B])=al true z r T:=by
  unfold al;rw [cm hB]
 rw [e];have:=ay.part (lo:=0) (hi:=64) (mx:=none) (ay.bytes (v:=z) (n:=r) (T:=T)) (by omega) h (fun _ h=>nomatch h);simpa using this
end Go.RX.Fm

namespace Go.RX.Fq
open Go Go.RX Go.Proofs Go.RX.Sh Go.RX.Fg Go.RX.Fj Go.RX.Fk Go.RX.Fm
def fD(A:Nat→Int):Prop:= ∀j,0≤A j∧A j<256
theorem t_(x:Int):0≤ae .u8 x∧ae .u8 x<256:=by
 simp [ae,IntKind.signed,IntKind.bits];omega
theorem m_:fD fun _=>0:=fun _=>⟨Int.le_refl _,(by decide:(0:Int)<256)⟩
theorem qg{A:Nat→Int}{n:Nat}{x:Int}(h:fD A):fD (ao A n (ae .u8 x)):=fun j=>by
 unfold ao;split
 ·exact t_ x
 ·exact h j
theorem Iz{A:Nat→Int}(h:fD A): ∃T:Nat→Nat,(∀j,T j<256)∧A=fun j=>((T j:Nat):Int):=
 ⟨fun j=>(A j).toNat,fun j=>by have:=h j;show(A j).toNat<256;omega,funext fun j=>by have:=h j;show A j=(((A j).toNat:Nat):Int);omega⟩
theorem Ya{x:Int}(h0:0≤x)(h1:x≤128):ae .i64 (ak .quo .i64 x 8)=((x.toNat/8:Nat):Int):=by
 obtain⟨i,rfl⟩:=Int.eq_ofNat_of_zero_le h0;show ae .i64 (Int.tdiv (i:Int) 8)=_;have:Int.tdiv (i:Int) 8=((i/8:Nat):Int):=rfl;rw [this,Int.toNat_natCast];simp [ae,IntKind.signed,IntKind.bits];omega
abbrev mJ(b:Nat)(vh vk:V1):HP:=aq b true [vh.v,vk.v,.int .i64 8,.int .i64 28,.int .i64 34,.int .i64 39,.int .i64 14,.int .i64 18,.int .i64 41,.int .i64 1,.int .i64 8,.int .i64 7,.int .i64 19,.int .i64 61,.int .i64 6]
abbrev dj(v:V1)(n:Nat)(A:Nat→Int):HP:=au true 24 1 v.v n (aK n [aJ .u64 1 A])
theorem b_{z:V1}{r:Nat}{B:Nat→Int}(m:Nat)(h:m≤r):ay [bn true z r B] (au false 5 1 (aC 1 z.v 0 m none) m (aK m [aJ .u8 1 fun j=>B (0+j)])):=by
 have hb:ay [bn true z r B] (au false 5 1 z.v r (aK r [aJ .u8 1 B])):=ay.own;have:=ay.sub (lo:=0) (hi:=m) (mx:=none) hb (Nat.zero_le _) h (fun _ h=>by cases h);rw [EN .u8 r 0 (m - 0) _ (by omega)]at this;exact this
theorem EO(b:Nat)(vh vk vb:V1)(A0 A1 A2:Nat→Int):
  ar adE 73 [.pointer (some ⟨b,0,none⟩),vb.v] [i_ b vh vk,bQ vh 8 A0,bQ vk 64 A1,bn false vb 64 A2] fun r hs=> ∃A:Nat→Int,r= .tuple #[]∧hs=[i_ b vh vk,bQ vh 8 A,bQ vk 64 A1]:=by
 refine Fm.Df _ A0 A1 A2 vh vk vb b ?_;unfold Fm.mI;intro v3;refine⟨fun e=> ∃a:Nat,a≤64∧e.i=[(a:Int)],fun e=>(64 - e.i.getD 0 0).toNat,⟨0,fun _=>0,rfl,fun _ _=>rfl,0,by omega,rfl⟩,?_⟩;rintro x1 A3 ⟨a,ha,hx⟩;simp only [adF,and_true]at hx;subst hx;have hq:=Fm.PX (x:=(a:Int)) (by omega) (by omega);refine⟨fun bP=>⟨by rw [hq];omega,fun _=>⟨by rw [hq];omega,fun _=>⟨by omega,fun _=>⟨by omega,fun _=>⟨by omega,fun _=>?_⟩⟩⟩⟩⟩,fun ig=>?_⟩
 ·refine⟨(a:Int)+1,_,rfl,fun _ _=>rfl,⟨a+1,by omega,rfl⟩,?_⟩;simp only [ah];omega
 refine⟨fun e=> ∃a:Nat,16≤a∧a≤64∧e.i=[(a:Int)],fun e=>(64 - e.i.getD 0 0).toNat,⟨16,A3,rfl,fun _ _=>rfl,16,by omega,by omega,rfl⟩,?_⟩;rintro x2 A4 ⟨a,P8,ha,hx⟩;simp only [adF,and_true]at hx;subst hx;refine⟨fun bP=>?_,fun ig=>?_⟩
 ·iterate 16 refine⟨by omega,fun _=>?_⟩
  intro b1 b2
  iterate 3 refine⟨by omega,fun _=>?_⟩
  refine⟨(a:Int)+1,_,rfl,fun _ _=>rfl,⟨a+1,by omega,by omega,rfl⟩,?_⟩;simp only [ah];omega
 intro u8;refine⟨fun e=> ∃a:Nat,a≤64∧e.i.getD 8 0=(a:Int),fun e=>(64 - e.i.getD 8 0).toNat,⟨_,_,_,_,_,_,_,_,0,rfl,rfl,rfl,rfl,rfl,rfl,rfl,rfl,rfl,0,by omega,rfl⟩,?_⟩;rintro x3 x4 x5 x6 x7 x8 x9 eK ib ⟨a,ha,hx⟩;simp only [ah,adx]at hx;subst hx;refine⟨fun bP=>⟨by omega,fun _=>fun b2 b3=>⟨by omega,fun _=>⟨by omega,fun _=>?_⟩⟩⟩,fun ig=>?_⟩
 ·refine⟨_,_,_,_,_,_,_,_,(a:Int)+1,rfl,rfl,rfl,rfl,rfl,rfl,rfl,rfl,rfl,⟨a+1,by omega,rfl⟩,?_⟩;simp only [ah,adx];omega
 refine⟨fun e=> ∃a:Nat,a≤8∧e.i=[(a:Int)],fun e=>(8 - e.i.getD 0 0).toNat,⟨0,A0,_,rfl,fun _ _=>rfl,fun _ _=>rfl,0,by omega,rfl⟩,?_⟩;rintro ic A5 A6 ⟨a,ha,hx⟩;simp only [adF,and_true]at hx;subst hx;refine⟨fun bP=>⟨by omega,fun _=>⟨by omega,fun _=>⟨by omega,fun _=>?_⟩⟩⟩,fun ig=>?_⟩
 ·refine⟨(a:Int)+1,_,A6,rfl,fun _ _=>rfl,fun _ _=>rfl,⟨a+1,by omega,rfl⟩,?_⟩;simp only [ah];omega
 exact⟨A5,rfl,rfl⟩
theorem dv{B:List HP}{x:Value}(b:Nat)(vh vk:V1)(hx:x.oneCell'=true)(A0 A1 T:Nat→Int)(hb:ay B (au false 5 1 x 64 (aK 64 [aJ .u8 1 T]))):
  ar adE 73 [.pointer (some ⟨b,0,none⟩),x] ([i_ b vh vk,bQ vh 8 A0,bQ vk 64 A1]++B)
   fun r hs=> ∃A:Nat→Int,r= .tuple #[]∧hs=[i_ b vh vk,bQ vh 8 A,bQ vk 64 A1]++B:=by
 have hm:ar adE 73 [.pointer (some ⟨b,0,none⟩),x] ([i_ b vh vk,bQ vh 8 A0,bQ vk 64 A1]++[au false 5 1 x 64 (aK 64 [aJ .u8 1 T])]) fun r hs=> ∃A:Nat→Int,r= .tuple #[]∧hs=[i_ b vh vk,bQ vh 8 A,bQ vk 64 A1]:=
  EO b vh vk ⟨x,hx⟩ A0 A1 T
 refine ar.post (ar.Pl hm ?_ (iZ hb)) ?_
 ·rintro v hs ⟨A,_,rfl⟩ h hh;simp only [adW,adP,or_false]at hh;rcases hh with rfl | rfl | rfl<;>rfl
 ·rintro v hs ⟨BM,⟨A,hr,rfl⟩,rfl⟩;exact⟨_,bU.refl _,A,hr,rfl⟩
theorem EP(b:Nat)(vh vk vb:V1)(A0 A1 A2:Nat→Int):
  ar adE 74 [.pointer (some ⟨b,0,none⟩),vb.v] [mJ b vh vk,dj vh 8 A0,dj vk 80 A1,bn false vb 128 A2] fun r hs=> ∃A:Nat→Int,r= .tuple #[]∧hs=[mJ b vh vk,dj vh 8 A,dj vk 80 A1]:=by
 refine GI _ A0 A1 A2 vh vk vb b ?_;unfold yn;intro v3;refine⟨fun e=> ∃a:Nat,a≤128∧e.i=[(a:Int)],fun e=>(128 - e.i.getD 0 0).toNat,⟨0,fun _=>0,rfl,fun _ _=>rfl,0,by omega,rfl⟩,?_⟩;rintro x1 A3 ⟨a,ha,hx⟩;simp only [adF,and_true]at hx;subst hx;have hq:=Ya (x:=(a:Int)) (by omega) (by omega);refine⟨fun bP=>⟨by rw [hq];omega,fun _=>⟨by rw [hq];omega,fun _=>⟨by omega,fun _=>⟨by omega,fun _=>⟨by omega,fun _=>?_⟩⟩⟩⟩⟩,fun ig=>?_⟩
 ·refine⟨(a:Int)+1,_,rfl,fun _ _=>rfl,⟨a+1,by omega,rfl⟩,?_⟩;simp only [ah];omega
 refine⟨fun e=> ∃a:Nat,16≤a∧a≤80∧e.i=[(a:Int)],fun e=>(80 - e.i.getD 0 0).toNat,⟨16,A3,rfl,fun _ _=>rfl,16,by omega,by omega,rfl⟩,?_⟩;rintro x2 A4 ⟨a,P8,ha,hx⟩;simp only [adF,and_true]at hx;subst hx;refine⟨fun bP=>?_,fun ig=>?_⟩
 ·iterate 16 refine⟨by omega,fun _=>?_⟩
  intro b1 b2
  iterate 3 refine⟨by omega,fun _=>?_⟩
  refine⟨(a:Int)+1,_,rfl,fun _ _=>rfl,⟨a+1,by omega,by omega,rfl⟩,?_⟩;simp only [ah];omega
 intro u8;refine⟨fun e=> ∃a:Nat,a≤80∧e.i.getD 8 0=(a:Int),fun e=>(80 - e.i.getD 8 0).toNat,⟨_,_,_,_,_,_,_,_,0,rfl,rfl,rfl,rfl,rfl,rfl,rfl,rfl,rfl,0,by omega,rfl⟩,?_⟩;rintro x3 x4 x5 x6 x7 x8 x9 eK ib ⟨a,ha,hx⟩;simp only [ah,adx]at hx;subst hx;refine⟨fun bP=>⟨by omega,fun _=>fun b2 b3=>⟨by omega,fun _=>⟨by omega,fun _=>?_⟩⟩⟩,fun ig=>?_⟩
 ·refine⟨_,_,_,_,_,_,_,_,(a:Int)+1,rfl,rfl,rfl,rfl,rfl,rfl,rfl,rfl,rfl,⟨a+1,by omega,rfl⟩,?_⟩;simp only [ah,adx];omega
 refine⟨fun e=> ∃a:Nat,a≤8∧e.i=[(a:Int)],fun e=>(8 - e.i.getD 0 0).toNat,⟨0,A0,_,rfl,fun _ _=>rfl,fun _ _=>rfl,0,by omega,rfl⟩,?_⟩;rintro ic A5 A6 ⟨a,ha,hx⟩;simp only [adF,and_true]at hx;subst hx;refine⟨fun bP=>⟨by omega,fun _=>⟨by omega,fun _=>⟨by omega,fun _=>?_⟩⟩⟩,fun ig=>?_⟩
 ·refine⟨(a:Int)+1,_,A6,rfl,fun _ _=>rfl,fun _ _=>rfl,⟨a+1,by omega,rfl⟩,?_⟩;simp only [ah];omega
 exact⟨A5,rfl,rfl⟩
theorem dx{B:List HP}{x:Value}(b:Nat)(vh vk:V1)(hx:x.oneCell'=true)(A0 A1 T:Nat→Int)(hb:ay B (au false 5 1 x 128 (aK 128 [aJ .u8 1 T]))):
  ar adE 74 [.pointer (some ⟨b,0,none⟩),x] ([mJ b vh vk,dj vh 8 A0,dj vk 80 A1]++B)
   fun r hs=> ∃A:Nat→Int,r= .tuple #[]∧hs=[mJ b vh vk,dj vh 8 A,dj vk 80 A1]++B:=by
 have hm:ar adE 74 [.pointer (some ⟨b,0,none⟩),x] ([mJ b vh vk,dj vh 8 A0,dj vk 80 A1]++[au false 5 1 x 128 (aK 128 [aJ .u8 1 T])]) fun r hs=> ∃A:Nat→Int,r= .tuple #[]∧hs=[mJ b vh vk,dj vh 8 A,dj vk 80 A1]:=
  EP b vh vk ⟨x,hx⟩ A0 A1 T
 refine ar.post (ar.Pl hm ?_ (iZ hb)) ?_
 ·rintro v hs ⟨A,_,rfl⟩ h hh;simp only [adW,adP,or_false]at hh;rcases hh with rfl | rfl | rfl<;>rfl
 ·rintro v hs ⟨BM,⟨A,hr,rfl⟩,rfl⟩;exact⟨_,bU.refl _,A,hr,rfl⟩
end Go.RX.Fq
