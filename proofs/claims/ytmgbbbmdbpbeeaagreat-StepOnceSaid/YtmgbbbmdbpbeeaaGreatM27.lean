/- SHA's constants. -/
import Derived.Test.YtmgbbbmdbpbeeaaGreatFmF
import Derived.Test.YtmgbbbmdbpbeeaaGreatM25
open Go.IntKind renaming wrap → ae
open Go.Proofs.Tryz renaming prog → aiT
open Int renaming toNat → ag, toNat_natCast → aiX
open List renaming append → aiL, getD_cons_succ → aiS, getD_cons_zero → ah, getElem?_append_left → aiR, getElem?_append_right → aiW, getElem?_eq_getElem → ajk, getElem?_eq_some_iff → aiN, range → ajw
open List.cons renaming injEq → ai5
open Nat renaming mod_eq_of_lt → ajm
open Option.some renaming injEq → aiP
namespace Go.RX.Sh
def aco:List Nat:=[4794697086780616226,8158064640168781261,13096744586834688815,16840607885511220156,4131703408338449720,6480981068601479193,10538285296894168987,12329834152419229976,15566598209576043074,1334009975649890238,2608012711638119052,6128411473006802146,8268148722764581231,9286055187155687089,11230858885718282805,13951009754708518548,16472876342353939154,17275323862435702243,1135362057144423861,2597628984639134821,3308224258029322869,5365058923640841347,6679025012923562964,8573033837759648693,10970295158949994411,12119686244451234320,12683024718118986047,13788192230050041572,14330467153632333762,15395433587784984357,489312712824947311,1452737877330783856,2861767655752347644,3322285676063803686,5560940570517711597,5996557281743188959,7280758554555802590,8532644243296465576,9350256976987008742,10552545826968843579,11727347734174303076,12113106623233404929,14000437183269869457,14369950271660146224,15101387698204529176,15463397548674623760,17586052441742319658,1182934255886127544,1847814050463011016,2177327727835720531,2830643537854262169,3796741975233480872,4115178125766777443,5681478168544905931,6601373596472566643,7507060721942968483,8399075790359081724,8693463985226723168,9568029438360202098,10144078919501101548,10430055236837252648,11840083180663258601,13761210420658862357,14299343276471374635,14566680578165727644,15097957966210449927,16922976911328602910,17689382322260857208,500013540394364858,748580250866718886,1242879168328830382,1977374033974150939,2944078676154940804,3659926193048069267,4368137639120453308,4836135668995329356,5532061633213252278,6448918945643986474,6902733635092675308,7801388544844847127]
def acp:List Nat:=[7640891576956012808,13503953896175478587,4354685564936845355,11912009170470909681,5840696475078001361,11170449401992604703,2270897969802886507,6620516959819538809]
def K64(j:Nat):Nat:=aco.getD j 0
def K0(j:Nat):Nat:=K64 j/2^32
def H0(j:Nat):Nat:=acp.getD j 0/2^32
def bytesOf(C:Nat→Nat)(j:Nat):Nat:=C (j/4)/2^(24 - 8*(j%4))%256
end Go.RX.Sh

namespace Go.RX.Fm
open Go Go.RX Go.Proofs Go.RX.Sh Go.RX.Fg Go.RX.Fj Go.RX.Fk
theorem RH{x:Int}(h0:0≤x)(h1:x≤64):ae .i64 (ak .quo .i64 x 4)=((x.toNat/4:Nat):Int):=by
 obtain⟨i,rfl⟩:=Int.eq_ofNat_of_zero_le h0;show ae .i64 (Int.tdiv (i:Int) 4)=_;have:Int.tdiv (i:Int) 4=((i/4:Nat):Int):=rfl;rw [this,aiX];simp [ae,IntKind.signed,IntKind.bits];omega
abbrev qf(b:Nat)(vh vk:V1):HP:=al b true [vh.v,vk.v,.int .i64 4,.int .i64 2,.int .i64 13,.int .i64 22,.int .i64 6,.int .i64 11,.int .i64 25,.int .i64 7,.int .i64 18,.int .i64 3,.int .i64 17,.int .i64 19,.int .i64 10]
theorem OU{B:Nat→Nat}{A:Nat→Int}(hB: ∀j,j<64→B j<256){t:Int}(h0:16≤t)(h1:t<64)(hA: ∀j,j<64→A j=((fU B (t.toNat - 16) j:Nat):Int))(j:Nat)(hj:j<64):
  au A (ag t) (ae .u32 ((ae .u32 ((ae .u32 ((ak .aB .u32 (ak .aB .u32 (ak .bC .u32 (ak .shr .u32 (A (ag (t - 2))) 17) (ak .shl .u32 (A (ag (t - 2))) 15)) (ak .bC .u32 (ak .shr .u32 (A (ag (t - 2))) 19) (ak .shl .u32 (A (ag (t - 2))) 13))) (ak .shr .u32 (A (ag (t - 2))) 10))+(A (ag (t - 7)))))+(ak .aB .u32 (ak .aB .u32 (ak .bC .u32 (ak .shr .u32 (A (ag (t - 15))) 7) (ak .shl .u32 (A (ag (t - 15))) 25)) (ak .bC .u32 (ak .shr .u32 (A (ag (t - 15))) 18) (ak .shl .u32 (A (ag (t - 15))) 14))) (ak .shr .u32 (A (ag (t - 15))) 3))))+(A (ag (t - 16))))) j
   =((fU B (t.toNat - 16+1) j:Nat):Int):=by
 have hl:=Oq hB (t.toNat - 16);obtain⟨n,hn⟩: ∃n,n=t.toNat - 16:=⟨_,rfl⟩;rw [←hn]at hA hl ⊢;rw [fU];unfold au;dsimp only;by_cases u4:j=t.toNat
 ·rw [if_pos u4,if_pos (by omega)];rw [hA (ag (t - 2)) (by omega),hA (ag (t - 7)) (by omega),hA (ag (t - 15)) (by omega),hA (ag (t - 16)) (by omega)];rw [show ag (t - 2)=n+14 by omega,show ag (t - 7)=n+9 by omega,show ag (t - 15)=n+1 by omega,show ag (t - 16)=n by omega];rw [ab4 (hl _),ab3 (hl _),p9,p9,p9];congr 1;omega
 ·rw [if_neg u4,if_neg (by omega)];exact hA j hj
theorem R0{v:Nat→Nat}(hv: ∀j,j<8→v j<2^32)(k w:Nat):
  ae .u32 ((ae .u32 ((ae .u32 ((ae .u32 (((v 7:Nat):Int)+(ak .aB .u32 (ak .aB .u32 (ak .bC .u32 (ak .shr .u32 ((v 4:Nat):Int) 6) (ak .shl .u32 ((v 4:Nat):Int) 26)) (ak .bC .u32 (ak .shr .u32 ((v 4:Nat):Int) 11) (ak .shl .u32 ((v 4:Nat):Int) 21))) (ak .bC .u32 (ak .shr .u32 ((v 4:Nat):Int) 25) (ak .shl .u32 ((v 4:Nat):Int) 7)))))+(ak .aB .u32 (ak .aM .u32 ((v 4:Nat):Int) ((v 5:Nat):Int)) (ak .aM .u32 (ak .aB .u32 4294967295 ((v 4:Nat):Int)) ((v 6:Nat):Int)))))+((k:Nat):Int)))+((w:Nat):Int))=((temp v k w:Nat):Int):=by
 rw [ab6 (hv 4 (by omega)),ab7 (hv 4 (by omega)) (hv 5 (by omega)) (hv 6 (by omega)),p9,p9,p9,p9];unfold temp;congr 1;omega
theorem OV{v:Nat→Nat}(hv: ∀j,j<8→v j<2^32):
  ae .u32 ((ak .aB .u32 (ak .aB .u32 (ak .bC .u32 (ak .shr .u32 ((v 0:Nat):Int) 2) (ak .shl .u32 ((v 0:Nat):Int) 30)) (ak .bC .u32 (ak .shr .u32 ((v 0:Nat):Int) 13) (ak .shl .u32 ((v 0:Nat):Int) 19))) (ak .bC .u32 (ak .shr .u32 ((v 0:Nat):Int) 22) (ak .shl .u32 ((v 0:Nat):Int) 10)))+(ak .aB .u32 (ak .aB .u32 (ak .aM .u32 ((v 0:Nat):Int) ((v 1:Nat):Int)) (ak .aM .u32 ((v 0:Nat):Int) ((v 2:Nat):Int))) (ak .aM .u32 ((v 1:Nat):Int) ((v 2:Nat):Int))))=(((S0 (v 0)+Ys (v 0) (v 1) (v 2))%2^32:Nat):Int):=by
 rw [ab5 (hv 0 (by omega)),Yv (hv 0 (by omega)) (hv 1 (by omega)) (hv 2 (by omega)),p9]
def eight(v:Nat→Nat)(a:Nat):List Int:=[((v 0:Nat):Int),((v 1:Nat):Int),((v 2:Nat):Int),((v 3:Nat):Int),((v 4:Nat):Int),((v 5:Nat):Int),((v 6:Nat):Int),((v 7:Nat):Int),(a:Int)]
theorem HH(v:Nat→Nat)(k w a:Nat):[(((temp v k w+(S0 (v 0)+Ys (v 0) (v 1) (v 2))%2^32)%2^32:Nat):Int),((v 0:Nat):Int),((v 1:Nat):Int),((v 2:Nat):Int),(((v 3+temp v k w)%2^32:Nat):Int),((v 4:Nat):Int),((v 5:Nat):Int),((v 6:Nat):Int),(a:Int)+1]=eight (Sh.step v k w) (a+1):=by
 unfold eight;rw [U8,U9,uX v k w (j:=1) (by decide) (by decide) (by decide),uX v k w (j:=2) (by decide) (by decide) (by decide),uX v k w (j:=3) (by decide) (by decide) (by decide),uX v k w (j:=5) (by decide) (by decide) (by decide),
  uX v k w (j:=6) (by decide) (by decide) (by decide),uX v k w (j:=7) (by decide) (by decide) (by decide),Int.natCast_add a 1]
 simp only [Int.natCast_one]
theorem R1{K H B R:Nat→Nat}(hR:R=WQ K (fU B 48) H 64)(j:Nat):comp K H B j=(H j+R j)%2^32:=by
 unfold comp;rw [hR]
abbrev dq(v:V1)(n:Nat)(A:Nat→Int):HP:=aG true 225 1 v.v n (aW n [bd .u32 1 A])
theorem vZ(b:Nat)(vh vk vb:V1)(A0 A1 A2:Nat→Int)(K H B:Nat→Nat)(wi: ∀j,j<8→A0 j=(H j:Nat))(hH: ∀j,j<8→H j<2^32)
  (Dk: ∀j,j<64→A1 j=(K j:Nat)) (hA2: ∀j,j<64→A2 j=(B j:Nat)) (hB: ∀j,j<64→B j<256):
  ax aiT 151 [.pointer (some ⟨b,0,none⟩),vb.v] [qf b vh vk,dq vh 8 A0,dq vk 64 A1,aG false 5 1 vb.v 64 (aW 64 [bd .u8 1 A2])]
   (fun r hs=> ∃A:Nat→Int,r= .tuple #[]∧hs=[qf b vh vk,dq vh 8 A,dq vk 64 A1]∧∀j,j<8→A j=((comp K H B j:Nat):Int)):=by
 refine Dm _ A0 A1 A2 vh vk vb b ?_;unfold np;intro v3;refine⟨fun e=> ∃a:Nat,a≤64∧e.i=[(a:Int)]∧∀j,j<64→e.a.getD 0 (fun _=>0) j=((fill B a j:Nat):Int),fun e=>(64 - e.i.getD 0 0).toNat,⟨0,fun _=>0,rfl,fun _ _=>rfl,0,by omega,rfl,fun j _=>rfl⟩,?_⟩;rintro x1 A3 ⟨a,ha,hx,hA⟩;simp only [ai5,and_true]at hx;subst hx;simp only [ah]at hA;have hq:=RH (x:=(a:Int)) (by omega) (by omega);refine⟨fun bX=>⟨by rw [hq];omega,fun _=>⟨by rw [hq];omega,fun _=>⟨by omega,fun _=>⟨by omega,fun _=>⟨by omega,fun _=>?_⟩⟩⟩⟩⟩,fun jI=>?_⟩
 ·refine⟨(a:Int)+1,_,rfl,fun _ _=>rfl,⟨a+1,by omega,rfl,fun j hj=>?_⟩,?_⟩
  ·simp only [ah];rw [hq,aiX,aiX,fill];unfold au;dsimp only;by_cases u4:j=a/4
   ·rw [if_pos u4,if_pos u4,hA _ (by omega),hA2 a (by omega),wrap_u32];have hb:=hB a (by omega);rw [ajm (by omega),show ak .shl .u32 ((fill B a (a/4):Nat):Int) 8=_ from TM (fill B a (a/4)) 8 (by decide),Yt (Nat.mod_lt _ (Nat.two_pow_pos 32)) (by omega)]
   ·rw [if_neg u4,if_neg u4];exact hA j hj
  ·simp only [ah];omega
 have OW:a=64:=by omega
 subst OW;refine⟨fun e=> ∃a:Nat,16≤a∧a≤64∧e.i=[(a:Int)]∧∀j,j<64→e.a.getD 0 (fun _=>0) j=((fU B (a - 16) j:Nat):Int),fun e=>(64 - e.i.getD 0 0).toNat,⟨16,A3,rfl,fun _ _=>rfl,16,by omega,by omega,rfl,fun j hj=>?_⟩,?_⟩
 ·simp only [ah];rw [hA j hj,Ou hB]
 rintro x2 A4 ⟨a,OX,ha,hx,HI⟩;simp only [ai5,and_true]at hx;subst hx;simp only [ah]at HI;refine⟨fun bX=>⟨by omega,fun _=>⟨by omega,fun _=>⟨by omega,fun _=>⟨by omega,fun _=>⟨by omega,fun _=>⟨by omega,fun _=>⟨by omega,fun _=>⟨by omega,fun _=>⟨by omega,fun _=>⟨by omega,fun _=>⟨by omega,fun _=>⟨by omega,fun _=>⟨by omega,fun _=>⟨by omega,fun _=>⟨by omega,fun _=>⟨by omega,fun _=>fun b1 b2=>⟨by omega,fun _=>⟨by omega,fun _=>⟨by omega,fun _=>?_⟩⟩⟩⟩⟩⟩⟩⟩⟩⟩⟩⟩⟩⟩⟩⟩⟩⟩⟩,fun jI=>fun b1=>?_⟩
 ·refine⟨(a:Int)+1,_,rfl,fun _ _=>rfl,⟨a+1,by omega,by omega,rfl,fun j hj=>?_⟩,?_⟩
  ·simp only [ah];have:=OU hB (t:=(a:Int)) (by omega) (by omega) (A:=A4) (by rw [aiX];exact HI) j hj;rw [this,aiX,show a - 16+1=a+1 - 16 by omega]
  ·simp only [ah];omega
 have OW:a=64:=by omega
 subst OW;have hv:=Ot (K:=K) (W:=fU B 48) hH;refine⟨fun e=> ∃a:Nat,a≤64∧e.i=eight (WQ K (fU B 48) H a) a,fun e=>(64 - e.i.getD 8 0).toNat,⟨_,_,_,_,_,_,_,_,0,rfl,(wi 0 (by omega)).symm,(wi 1 (by omega)).symm,(wi 2 (by omega)).symm,(wi 3 (by omega)).symm,(wi 4 (by omega)).symm,(wi 5 (by omega)).symm,(wi 6 (by omega)).symm,(wi 7 (by omega)).symm,0,by omega,rfl⟩,?_⟩;rintro x3 x4 x5 x6 x7 x8 x9 bP fm ⟨a,ha,hx⟩;simp only [eight,ai5,and_true]at hx;obtain⟨rfl,rfl,rfl,rfl,rfl,rfl,rfl,rfl,rfl⟩:=hx;refine⟨fun bX=>⟨by omega,fun _=>fun b2 b3=>⟨by omega,fun _=>⟨by omega,fun _=>?_⟩⟩⟩,fun jI=>?_⟩
 ·refine⟨_,_,_,_,_,_,_,_,(a:Int)+1,rfl,rfl,rfl,rfl,rfl,rfl,rfl,rfl,rfl,⟨a+1,by omega,?_⟩,?_⟩
  ·have hk:A1 (ag (a:Int))=((K a:Nat):Int):=by rw [aiX];exact Dk a (by omega)
   have hw:A4 (ag (a:Int))=((fU B 48 a:Nat):Int):=by rw [aiX];exact HI a (by omega)
   rw [hk,hw,R0 (hv a),OV (hv a),p9,p9];exact HH _ _ _ _
  ·simp only [ah,aiS];omega
 have OW:a=64:=by omega
 subst OW;obtain⟨R,hR⟩: ∃R:Nat→Nat,R=WQ K (fU B 48) H 64:=⟨_,rfl⟩;have hc:=R1 hR;rw [←hR];refine⟨fun e=> ∃a:Nat,a≤8∧e.i=[(a:Int)]∧(∀j,j<8→e.a.getD 1 (fun _=>0) j=((R j:Nat):Int))∧∀j,j<8→e.a.getD 0 (fun _=>0) j=(((if j<a then comp K H B j else H j):Nat):Int),fun e=>(8 - e.i.getD 0 0).toNat,
  ⟨0,A0,_,rfl,fun _ _=>rfl,fun _ _=>rfl,0,by omega,rfl,fun j hj=>?_,fun j hj=>?_⟩,?_⟩
 ·simp only [ah,aiS];unfold au
  match j,hj with
  | 0,_=>rfl
  | 1,_=>rfl
  | 2,_=>rfl
  | 3,_=>rfl
  | 4,_=>rfl
  | 5,_=>rfl
  | 6,_=>rfl
  | 7,_=>rfl
 ·simp only [ah];rw [if_neg (by omega)];exact wi j hj
 rintro c6 A5 A6 ⟨a,ha,hx,h6,h5⟩;simp only [ai5,and_true]at hx;subst hx;simp only [ah,aiS]at h6 h5;refine⟨fun bX=>⟨by omega,fun _=>⟨by omega,fun _=>⟨by omega,fun _=>?_⟩⟩⟩,fun jI=>?_⟩
 ·refine⟨(a:Int)+1,_,A6,rfl,fun _ _=>rfl,fun _ _=>rfl,⟨a+1,by omega,rfl,h6,fun j hj=>?_⟩,?_⟩
  ·simp only [ah];rw [aiX];unfold au;by_cases KR:j=a
   ·subst KR;rw [if_pos rfl,if_pos (by omega),h5 j hj,h6 j hj,if_neg (by omega),p9,hc]
   ·rw [if_neg KR,h5 j hj];by_cases h:j<a
    ·rw [if_pos h,if_pos (by omega)]
    ·rw [if_neg h,if_neg (by omega)]
  ·simp only [ah];omega
 have YR:a=8:=by omega
 subst YR;refine⟨A5,rfl,rfl,fun j hj=>?_⟩;rw [h5 j hj,if_pos hj]
end Go.RX.Fm

namespace Go.RX.Fq
open Go.RX
def YS(X:Nat→Int)(t:Int):Int:=(ae .u32 ((ae .u32 ((ae .u32 ((ak .aB .u32 (ak .aB .u32 (ak .bC .u32 (ak .shr .u32 (X (ag (t - 2))) 17) (ak .shl .u32 (X (ag (t - 2))) 15)) (ak .bC .u32 (ak .shr .u32 (X (ag (t - 2))) 19) (ak .shl .u32 (X (ag (t - 2))) 13))) (ak .shr .u32 (X (ag (t - 2))) 10))+(X (ag (t - 7)))))+(ak .aB .u32 (ak .aB .u32 (ak .bC .u32 (ak .shr .u32 (X (ag (t - 15))) 7) (ak .shl .u32 (X (ag (t - 15))) 25)) (ak .bC .u32 (ak .shr .u32 (X (ag (t - 15))) 18) (ak .shl .u32 (X (ag (t - 15))) 14))) (ak .shr .u32 (X (ag (t - 15))) 3))))+(X (ag (t - 16)))))
def nU(B:Nat→Int):Nat→Nat→Int
 | 0=>fun _=>0
 | i+1=>au (nU B i) (i/4) (ak .bC .u32 (ak .shl .u32 (nU B i (i/4)) 8) (ae .u32 (B i)))
def Fb(A:Nat→Int):Nat→Nat→Int
 | 0=>A
 | n+1=>au (Fb A n) (16+n) (YS (Fb A n) ((16+n:Nat):Int))
def up4(k w:Int)(v:Nat→Int)(j:Nat):Int:=
 if j=0 then(ae .u32 ((ae .u32 ((ae .u32 ((ae .u32 ((ae .u32 ((v 7)+(ak .aB .u32 (ak .aB .u32 (ak .bC .u32 (ak .shr .u32 (v 4) 6) (ak .shl .u32 (v 4) 26)) (ak .bC .u32 (ak .shr .u32 (v 4) 11) (ak .shl .u32 (v 4) 21))) (ak .bC .u32 (ak .shr .u32 (v 4) 25) (ak .shl .u32 (v 4) 7)))))+(ak .aB .u32 (ak .aM .u32 (v 4) (v 5)) (ak .aM .u32 (ak .aB .u32 4294967295 (v 4)) (v 6)))))+k))+w))+(ae .u32 ((ak .aB .u32 (ak .aB .u32 (ak .bC .u32 (ak .shr .u32 (v 0) 2) (ak .shl .u32 (v 0) 30)) (ak .bC .u32 (ak .shr .u32 (v 0) 13) (ak .shl .u32 (v 0) 19))) (ak .bC .u32 (ak .shr .u32 (v 0) 22) (ak .shl .u32 (v 0) 10)))+(ak .aB .u32 (ak .aB .u32 (ak .aM .u32 (v 0) (v 1)) (ak .aM .u32 (v 0) (v 2))) (ak .aM .u32 (v 1) (v 2)))))))
 else if j=4 then(ae .u32 ((v 3)+(ae .u32 ((ae .u32 ((ae .u32 ((ae .u32 ((v 7)+(ak .aB .u32 (ak .aB .u32 (ak .bC .u32 (ak .shr .u32 (v 4) 6) (ak .shl .u32 (v 4) 26)) (ak .bC .u32 (ak .shr .u32 (v 4) 11) (ak .shl .u32 (v 4) 21))) (ak .bC .u32 (ak .shr .u32 (v 4) 25) (ak .shl .u32 (v 4) 7)))))+(ak .aB .u32 (ak .aM .u32 (v 4) (v 5)) (ak .aM .u32 (ak .aB .u32 4294967295 (v 4)) (v 6)))))+k))+w))))
 else v (j - 1)
def Fc(K W v:Nat→Int):Nat→Nat→Int
 | 0=>v
 | a+1=>up4 (K a) (W a) (Fc K W v a)
def tN(K H B:Nat→Int)(j:Nat):Int:=ae .u32 (H j+Fc K (Fb (nU B 64) 48) H 64 j)
def OY(v:Nat→Int)(a:Int):List Int:=[v 0,v 1,v 2,v 3,v 4,v 5,v 6,v 7,a]
theorem LH{X Y:Nat→Int}(h: ∀j,j<64→X j=Y j){n:Nat}(hn:n<64):YS X (n:Int)=YS Y (n:Int):=by
 unfold YS;rw [h (ag ((n:Int) - 2)) (by omega),h (ag ((n:Int) - 7)) (by omega),h (ag ((n:Int) - 15)) (by omega),h (ag ((n:Int) - 16)) (by omega)]
theorem wj{B B':Nat→Int}: ∀a,(∀i,i<a→B i=B' i)→nU B a=nU B' a
 | 0,_=>rfl
 | a+1,h=>by rw [nU,nU,wj a fun i hi=>h i (by omega),h a (by omega)]
theorem LI{k w:Int}{v v':Nat→Int}(h: ∀j,j<8→v j=v' j)(j:Nat)(hj:j<8):up4 k w v j=up4 k w v' j:=by
 unfold up4;rw [h 0 (by decide),h 1 (by decide),h 2 (by decide),h 3 (by decide),h 4 (by decide),h 5 (by decide),h 6 (by decide),h 7 (by decide),h (j - 1) (by omega)]
theorem zm{K K' W v v':Nat→Int}(hv: ∀j,j<8→v j=v' j): ∀a,(∀i,i<a→K i=K' i)→∀j,j<8→Fc K W v a j=Fc K' W v' a j
 | 0,_=>hv
 | a+1,h=>fun j hj=>by
  rw [Fc,Fc,h a (by omega)];exact LI (zm hv a fun i hi=>h i (by omega)) j hj
theorem wk{K K' H H' B B':Nat→Int}(hK: ∀j,j<64→K j=K' j)(hH: ∀j,j<8→H j=H' j)(hB: ∀j,j<64→B j=B' j)(j:Nat)(hj:j<8):tN K H B j=tN K' H' B' j:=by
 unfold tN;rw [wj 64 hB,hH j hj,zm hH 64 hK j hj]
def WV(A:Nat→Int):Prop:= ∀j,0≤A j∧A j<256
theorem qR(x:Int):0≤ae .u8 x∧ae .u8 x<256:=by
 simp [ae,IntKind.signed,IntKind.bits];omega
def K4(j:Nat):Int:=((Sh.K0 j:Nat):Int)
def Ff(M:Nat→Int):Nat→Nat→Int
 | 0=>fun j=>((Sh.H0 j:Nat):Int)
 | q+1=>tN K4 (Ff M q) fun i=>M (64*q+i)
def Fo(x:Int):Nat→Int:=(au (au (au (au (au (au (au (au (fun _=>0) 7 (ae .u8 (ak .shr .u64 (ak .shl .u64 x 3) 0))) 6 (ae .u8 (ak .shr .u64 (ak .shl .u64 x 3) 8))) 5 (ae .u8 (ak .shr .u64 (ak .shl .u64 x 3) 16))) 4 (ae .u8 (ak .shr .u64 (ak .shl .u64 x 3) 24))) 3 (ae .u8 (ak .shr .u64 (ak .shl .u64 x 3) 32))) 2 (ae .u8 (ak .shr .u64 (ak .shl .u64 x 3) 40))) 1 (ae .u8 (ak .shr .u64 (ak .shl .u64 x 3) 48))) 0 (ae .u8 (ak .shr .u64 (ak .shl .u64 x 3) 56)))
def tO(n:Nat):Nat:=64*((n+8)/64+1)
def iC(n:Nat)(M:Nat→Int)(j:Nat):Int:=if j<n then M j else if j=n then 128 else if j<tO n - 8 then 0 else Fo (n:Int) (j - (tO n - 8))
def Vq(S:Nat→Int)(j:Nat):Int:=ae .u8 (ak .shr .u32 (S (j/4)) (24 - 8*((j%4:Nat):Int)))
def oN(n:Nat)(M:Nat→Int):Nat→Int:=Vq (Ff (iC n M) ((n+8)/64+1))
theorem zo(n:Nat)(M:Nat→Int):WV (oN n M):=fun _=>qR _
theorem Fp{n:Nat}{M M':Nat→Int}(h: ∀j,j<n→M j=M' j):iC n M=iC n M':=by
 funext j;unfold iC;split
 ·rename_i c;exact h j c
 ·rfl
theorem zp{n:Nat}{M M':Nat→Int}(h: ∀j,j<n→M j=M' j):oN n M=oN n M':=by
 unfold oN;rw [Fp h]
end Go.RX.Fq

namespace Go.RX.Sh
open Go.RX Go.RX.Fk
def qg(n:Nat)(M:Nat→Nat)(j:Nat):Nat:=(Fq.oN n (fun j=>((M j:Nat):Int)) j).toNat
theorem Bx(n:Nat)(M:Nat→Nat):(fun j=>((qg n M j:Nat):Int))=Fq.oN n fun j=>((M j:Nat):Int):=by
 funext j;have:=Fq.zo n (fun j=>((M j:Nat):Int)) j;unfold qg;omega
theorem JL(n:Nat)(M:Nat→Nat)(j:Nat):qg n M j<256:=by
 have:=Fq.zo n (fun j=>((M j:Nat):Int)) j;unfold qg;omega
theorem HJ{n:Nat}{M M':Nat→Nat}(h: ∀j,j<n→M j=M' j):qg n M=qg n M':=by
 funext j;unfold qg;rw [Fq.zp (M':=fun j=>((M' j:Nat):Int)) fun j hj=>by rw [h j hj]]
def fu(n:Nat)(A B:Nat→Nat)(j:Nat):Nat:=if j<n then A j else B (j - n)
theorem jz{A B:Nat→Nat}(hA: ∀j,A j<256)(hB: ∀j,B j<256)(n j:Nat):fu n A B j<256:=by
 unfold fu;split
 ·exact hA _
 ·exact hB _
theorem i_{n:Nat}{A B:Nat→Nat}{j:Nat}(h:j<n):fu n A B j=A j:=by unfold fu;rw [if_pos h]
theorem bO(n:Nat)(A B:Nat→Nat)(j:Nat):fu n A B (n+j)=B j:=by unfold fu;rw [if_neg (by omega),Nat.add_sub_cancel_left]
def kG(kn:Nat)(K:Nat→Nat)(w j:Nat):Nat:=(if j<kn then K j else 0)^^^w
theorem CO{K:Nat→Nat}(hK: ∀j,K j<256){w:Nat}(hw:w<256)(kn j:Nat):kG kn K w j<256:=by
 unfold kG;refine Ae.aS ?_ hw;split
 ·exact hK _
 ·decide
def CP(kn:Nat)(K:Nat→Nat)(n:Nat)(M:Nat→Nat):Nat→Nat:=qg 96 (fu 64 (kG kn K 92) (qg (64+n) (fu 64 (kG kn K 54) M)))
theorem R3(kn:Nat)(K:Nat→Nat)(n:Nat)(M:Nat→Nat)(j:Nat):CP kn K n M j<256:=JL _ _ j
theorem HK{kn:Nat}{K:Nat→Nat}{n:Nat}{M M':Nat→Nat}(h: ∀j,j<n→M j=M' j):CP kn K n M=CP kn K n M':=by
 unfold CP;rw [HJ (n:=64+n) (M:=fu 64 (kG kn K 54) M) (M':=fu 64 (kG kn K 54) M')];intro j hj;unfold fu;split
 ·rfl
 ·exact h _ (by omega)
end Go.RX.Sh

namespace Go.RX
theorem bL.idx{a b:List HP}(idx:List Nat)(gu:idx.Nodup)(h: ∀(j:Nat) x,b[j]? =some x→∃i,idx[j]? =some i∧a[i]? =some x):bL a b:=by
 intro w Fs o;refine o.tf (fun j=>if j<b.length then idx[j]? else some (a.length+(j - b.length))) ?_ ?_
 ·intro j x hx;right;by_cases hj:j<b.length
  ·rw [aiR hj]at hx;obtain⟨i,h1,h2⟩:=h j x hx;refine⟨i,by simp only [hj,if_true,h1],?_⟩;rw [aiR (aiN.1 h2).1];exact h2
  ·rw [aiW (by omega)]at hx;refine⟨_,by simp only [hj,if_false];rfl,?_⟩;rw [aiW (by omega),Nat.add_sub_cancel_left];exact hx
 ·intro j j' i hj lH _ _;by_cases h1:j<b.length
  ·have hx:b[j]? =some b[j]:=ajk h1;obtain⟨i1,q1,q2⟩:=h j _ hx;have Gy:=(aiN.1 q2).1;simp only [h1,if_true,q1,aiP]at hj;subst hj;by_cases h2:j'<b.length
   ·simp only [h2,if_true]at lH;obtain⟨l1,e1⟩:=aiN.1 q1;obtain⟨l2,e2⟩:=aiN.1 lH;exact(List.getElem_inj gu).1 (e1.trans e2.symm)
   ·simp only [h2,if_false,aiP]at lH;omega
  ·simp only [h1,if_false,aiP]at hj;by_cases h2:j'<b.length
   ·have hx:b[j']? =some b[j']:=ajk h2;obtain⟨i1,q1,q2⟩:=h j' _ hx;have Gy:=(aiN.1 q2).1;simp only [h2,if_true,q1,aiP]at lH;omega
   ·simp only [h2,if_false,aiP]at lH;omega
theorem bL.at3{a:List HP}{i j k:Nat}{x y z:HP}(hi:a[i]? =some x)(hj:a[j]? =some y)(hk:a[k]? =some z)(hn:[i,j,k].Nodup):bL a [x,y,z]:=by
 refine bL.idx [i,j,k] hn fun m u hu=>?_
 match m,hu with
 | 0,hu=>cases hu;exact⟨i,rfl,hi⟩
 | 1,hu=>cases hu;exact⟨j,rfl,hj⟩
 | 2,hu=>cases hu;exact⟨k,rfl,hk⟩
 | m+3,hu=>simp at hu
end Go.RX
namespace Go.RX.Fm
open Go Go.RX Go.Proofs Go.RX.Sh Go.RX.Fg Go.RX.Fj Go.RX.Fk
set_option maxRecDepth 100000 in
theorem CQ:ax aiT 138 [] [] (fun r hs=> ∃b:Nat,∃vh vk:V1,∃A B:Nat→Int,r= .pointer (some ⟨b,0,none⟩)∧
  hs=[qf b vh vk,dq vh 8 A,dq vk 64 B]∧(∀j,j<8→A j=((H0 j:Nat):Int))∧∀j,j<64→B j=((K0 j:Nat):Int)):=by
 refine ax.post (p:=fun r hs=> ∃b:Nat,∃vh vk:V1,∃A B:Nat→Int,r= .pointer (some ⟨b,0,none⟩)∧hs[2]? =some (dq vh 8 A)∧hs[12]? =some (dq vk 64 B)∧
  hs[76]? =some (qf b vh vk)∧(∀j,j<8→A j=((H0 j:Nat):Int))∧∀j,j<64→B j=((K0 j:Nat):Int)) ?_ ?_
 rotate_left
 ·rintro r hs ⟨b,vh,vk,A,B,rfl,h1,h2,h3,h4,h5⟩;exact⟨_,bL.at3 h3 h1 h2 (by decide),b,vh,vk,A,B,rfl,rfl,h4,h5⟩
 refine J9 _ ?_;unfold AG
 intros
 exact⟨_,_,_,_,_,rfl,rfl,rfl,rfl,by decide+kernel,by decide+kernel⟩
end Go.RX.Fm

namespace Go.RX.Fq
open Go Go.RX Go.Proofs Go.RX.Sh Go.RX.Fg Go.RX.Fj Go.RX.Fk Go.RX.Fm
theorem acq{x:Int}(h0:0≤x)(h1:x≤128):ae .i64 (ak .quo .i64 x 8)=((x.toNat/8:Nat):Int):=by
 obtain⟨i,rfl⟩:=Int.eq_ofNat_of_zero_le h0;show ae .i64 (Int.tdiv (i:Int) 8)=_;have:Int.tdiv (i:Int) 8=((i/8:Nat):Int):=rfl;rw [this,aiX];simp [ae,IntKind.signed,IntKind.bits];omega
abbrev qh(b:Nat)(vh vk:V1):HP:=al b true [vh.v,vk.v,.int .i64 8,.int .i64 28,.int .i64 34,.int .i64 39,.int .i64 14,.int .i64 18,.int .i64 41,.int .i64 1,.int .i64 8,.int .i64 7,.int .i64 19,.int .i64 61,.int .i64 6]
abbrev eo(v:V1)(n:Nat)(A:Nat→Int):HP:=aG true 23 1 v.v n (aW n [bd .u64 1 A])
theorem qS{z:V1}{r:Nat}{B:Nat→Int}(m:Nat)(h:m≤r):ar [bn true z r B] (aG false 5 1 (aC 1 z.v 0 m none) m (aW m [bd .u8 1 fun j=>B (0+j)])):=by
 have hb:ar [bn true z r B] (aG false 5 1 z.v r (aW r [bd .u8 1 B])):=ar.own;have:=ar.sub (lo:=0) (hi:=m) (mx:=none) hb (Nat.zero_le _) h (fun _ h=>by cases h);rw [EW .u8 r 0 (m - 0) _ (by omega)]at this;exact this
end Go.RX.Fq

namespace Go.RX.Fu
open Go.RX Go.RX.Fe Go.RX.Fg Go.RX.Fi Go.RX.Fj Go.RX.Fk Go.RX.Fl
def LJ(hp:List Ck):List Nat:=(ajw hp.length).filter fun j=>match hp[j]? with | some (.abs _)=>true | _=>false
def HL(st:St):Option dR:=
 match st.fr.lookup 24,st.fr.lookup 21,st.fr.lookup 23 with
 | some (.bool b),some (.vv vl),some (.int _ e)=>
  if st.known.contains b then
   match cG st.hp vl,LJ st.hp with
   | some (j,.bK md _ t s n [⟨_,_,a⟩]),[k]=>some {use:=[j,k],inc:={i:=1,a:=1,v:=1},new:=[.bK md vl t s n [⟨.pt e st.aV.v,1,a⟩],st.hp.getD k .emp,.bK false st.aV.v 5 1 (.var st.aV.i) (cB st.aV.a)]}
   | _,_=>none
  else if st.known.contains (iI b)then none else some {split:=some b}
 | _,_,_=>none
def HM(st:St):Option dR:=
 match st.fr.lookup 21 with
 | some (.vv vl)=>
  match cG st.hp vl with
  | some (j,.bK md _ t s n [⟨.pt _ v,_,a⟩])=>
   (match cG st.hp v with
   | some (i,k)=>some {use:=[j,i],new:=[.bK md vl t s n [⟨.cv,1,a⟩],k]}
   | none=>none)
  | _=>none
 | _=>none
def Vr(st:St):Option dR:=
 match (ajw st.hp.length).filter fun j=>match st.hp[j]? with | some (.bK false _ 5 1 _ _)=>true | _=>false with
 | [i]=>some {use:=[i],new:=[]}
 | _=>none
def kQ(f r:Nat):Option (St→Option dR):=
 if f=139∨f=141 then(if r=5 then some HL else if r=6 then some HM else if r=12 then some Vr else none)else none
def aD(w:Bool)(a:Nat):List bR:=if w then Fq.dW a else Fm.cW a
def hpL(w:Bool)(c:cz)(h:List Ck):List Ck:=
 h.map fun k=>match k with
  | .bK true _ 5 1 _ _=> .bK true c.v 5 1 (.var c.i) (cB c.a)
  | .bK true v t 1 (.lit 8) _=> .bK true v t 1 (.lit 8) (aD w (c.a+1))
  | k=>k
def outer(w:Bool):dO:={pre:=[.slot 6 5],inc:={i:=3,a:=2,v:=1},aO:=fun c=>[(6,.vv c.v),(7,.int .u64 (.var (c.i+1))),(23,.int .i64 (.var (c.i+2)))],hp:=hpL w}
def inner(w:Bool):dO:={back:=[.cut 6 true],inc:={i:=1,a:=2,v:=1},aO:=fun c=>[(6,.vv c.v)],hp:=hpL w}
def loops(f id:Nat):Option dO:=
 match f,id with
 | 139,0=>some (outer false)
 | 141,0=>some (outer true)
 | 139,2=>some (inner false)
 | 141,2=>some (inner true)
 | f,id=>Fq.loops f id
def YT(x:SV)(hp:List Ck):List Nat:=
 match x with
 | .vv l=>(match cG hp l with | some (j,_)=>[j] | none=>[])++LJ hp
 | _=>[]
def TQ(n:Nat):aL:={use:=fun az hp=>match az with | [m,x]=>Fm.p7 [m] hp++YT x hp | _=>[],inc:={a:=1,v:=1},val:=fun c=> .vv c.v,new:=fun c _=>[.bK true c.v 5 1 (.lit n) (cB c.a)]}
def YU(n:Nat):aL:={use:=fun az hp=>match az with | [x]=>YT x hp | _=>[],inc:={a:=1},val:=fun c=> .agg [.b_ .u8 n (.aN c.a)],new:=fun _ _=>[]}
def bB(f:Nat):Option aL:=
 match f with
 | 139=>some (TQ 32)
 | 141=>some (TQ 64)
 | 115=>some (YU 32)
 | 116=>some (YU 64)
 | f=>Fq.bB f
open Go.RX Go.Proofs Go.RX.Fe Go.RX.Fg
noncomputable def cx:Ctx:={T:=TT,FT:=FT,loops:=Fu.loops,bB:=Fu.bB,kQ:=Fu.kQ}
theorem mtD{C:Ctx}{f:Nat}{fd:Func}(args:List SV)(hp:List Ck)(aV:cz)(ρ:Env){ao:Value→List HP→Prop}{s:Prop}(k:Nat)(hf:Tryz.prog.funcs[f]? =some fd)(hv:VC aiT (fun v hs=>ao v ((hs.take k).drop (k - 1))) (ig C f args hp aV fd) ρ (fun _=>LC.none)=s)(h:s)(hT:bD aiT C.T=true:=by exact Ew)(zV:aR aiT C.FT:=by exact pZ)(hl:fq ρ aV:=by constructor<;>rfl)
  (Cs:fg aiT C:=by exact fg.none rfl):ax aiT f (SV.bH ρ args) (hp.map (Ck.den ρ)) ao:=
 ax.post (ax.kf (C:=C) hT zV Ex hf hl rfl hv h Cs) fun _ hs hq=>⟨_,bL.sub ((List.drop_sublist _ _).trans (List.take_sublist k hs)),hq⟩
set_option maxRecDepth 100000
def By(ao:PT)(x0:Int)(A0 A1 A2:Nat→Int)(v0 v1 v2:V1)(b0:Nat)(p0:HP):Prop:=
 aw (0≤x0) (
 ∃(cc:Ext→Prop) (cu:Ext→Nat),(∃(v4:V1) (x1 x2 x3:Int) (A3 A4:Nat→Int),v4=(⟨.slice none 0 0,rfl⟩:V1)∧x2=0∧x3=0∧(∀j,j<8→A4 j=A0 j)∧v4=(⟨.slice none 0 0,rfl⟩:V1)∧x1=0∧(∀j,j<(ag x1)→A3 j=(fun _=>0) j)∧cc ⟨[],[v4],[x1,x2,x3],[A3,A4],[],[],[]⟩)∧
 ∀(v4:V1) (x1 x2 x3:Int) (A3 A4:Nat→Int),cc ⟨[],[v4],[x1,x2,x3],[A3,A4],[],[],[]⟩→
 aJ (x3<x0) (
 ∃JM:Ext→Prop,(∀(w:World) (Fs:List HP),bz ([aG false 24 1 v2.v (ag x0) (aW (ag x0) [cJ 1 (fun j=>bQ (A2 j))]),p0]++Fs) w→∃(v5:V1) (x4:Int) (A5:Nat→Int),bz ([aG false 24 1 v2.v (ag x0) (aW (ag x0) [cJ 1 (fun j=>if j=(ag x3)then v5.v else bQ (A2 j))]),p0,bi v5 x4 A5]++Fs) w∧JM ⟨[],[v5],[x4],[A5],[],[],[]⟩)∧
 (∀(v5:V1) (x4:Int) (A5:Nat→Int),JM ⟨[],[v5],[x4],[A5],[],[],[]⟩→
 aw (0≤x3) (
 ∃JM:Ext→Prop,(∀(w:World) (Fs:List HP),bz ([aG false 24 1 v2.v (ag x0) (aW (ag x0) [cJ 1 (fun j=>if j=(ag x3)then v5.v else bQ (A2 j))]),bi v5 x4 A5]++Fs) w→bz ([aG false 24 1 v2.v (ag x0) (aW (ag x0) [cJ 1 (fun j=>bQ (A2 j))]),bi v5 x4 A5]++Fs) w∧JM ⟨[],[],[],[],[],[],[]⟩)∧
 (JM ⟨[],[],[],[],[],[],[]⟩→
 aw (0≤x4) (
 aw (0≤x1) (
 nq (x1+x4) (
 ∀v6:V1,∃(HN:Ext→Prop) (OZ:Ext→Nat),(∃(v7:V1) (x5:Int) (A6 A7:Nat→Int),v7=v6∧(∀j,j<8→A7 j=A4 j)∧v7=v6∧x5=(x1+x4)∧(∀j,j<(ag x5)→A6 j=(ay A3 (ag x1) (ag x4) A5) j)∧HN ⟨[],[v7],[x5],[A6,A7],[],[],[]⟩)∧
 ∀(v7:V1) (x5:Int) (A6 A7:Nat→Int),HN ⟨[],[v7],[x5],[A6,A7],[],[],[]⟩→
 aw (0≤x5) (
 aJ (64≤x5) (
 Cl 151 [.pointer (some ⟨b0,0,none⟩),(aC 1 v7.v 0 64 none)] [al b0 true ([v0.v,v1.v,.int .i64 4,.int .i64 2,.int .i64 13,.int .i64 22,.int .i64 6,.int .i64 11,.int .i64 25,.int .i64 7,.int .i64 18,.int .i64 3,.int .i64 17,.int .i64 19,.int .i64 10]),aG true 225 1 v0.v 8 (aW 8 [bd .u32 1 A7]),aG true 225 1 v1.v 64 (aW 64 [bd .u32 1 A1]),bo v7 x5 A6] fun x hs _=> ∃A8:(Nat→Int),x= .tuple #[]∧hs=[al b0 true ([v0.v,v1.v,.int .i64 4,.int .i64 2,.int .i64 13,.int .i64 22,.int .i64 6,.int .i64 11,.int .i64 25,.int .i64 7,.int .i64 18,.int .i64 3,.int .i64 17,.int .i64 19,.int .i64 10]),aG true 225 1 v0.v 8 (aW 8 [bd .u32 1 A8]),aG true 225 1 v1.v 64 (aW 64 [bd .u32 1 A1]),bo v7 x5 A6]∧
 aw (64≤x5) (
 aw (0≤(x5 - 64)) (
 ∀v8:V1,∃(R4:V1) (jH:Int) (ui Cy:Nat→Int),R4=v8∧(∀j,j<8→Cy j=A8 j)∧R4=v8∧jH=(x5 - 64)∧(∀j,j<(ag jH)→ui j=(aI A6 64) j)∧HN ⟨[],[R4],[jH],[ui,Cy],[],[],[]⟩∧OZ ⟨[],[R4],[jH],[ui,Cy],[],[],[]⟩<OZ ⟨[],[v7],[x5],[A6,A7],[],[],[]⟩))) (
 cg (x3+1) ((
 ∃YV:Ext→Prop,(∀(w:World) (Fs:List HP),bz ([bi v5 x4 A5]++Fs) w→bz ([]++Fs) w∧YV ⟨[],[],[],[],[],[],[]⟩)∧
 (YV ⟨[],[],[],[],[],[],[]⟩→
 ∃(CN:V1) (dr ei dJ:Int) (jf BO:Nat→Int),CN=v7∧ei=(ae .u64 (x2+(ae .u64 x4)))∧dJ=(x3+1)∧(∀j,j<8→BO j=A7 j)∧CN=v7∧dr=x5∧(∀j,j<(ag dr)→jf j=A6 j)∧cc ⟨[],[CN],[dr,ei,dJ],[jf,BO],[],[],[]⟩∧cu ⟨[],[CN],[dr,ei,dJ],[jf,BO],[],[],[]⟩<cu ⟨[],[v4],[x1,x2,x3],[A3,A4],[],[],[]⟩)))))))))))) (
 aw (0≤x1) (
 ∀_:Nat,nq (x1+1) (
 ∀v5:V1,∃(dS:Ext→Prop) (gv:Ext→Nat),(∃(v6:V1) (x4:Int) (A5:Nat→Int),v6=v5∧v6=v5∧x4=(x1+1)∧(∀j,j<(ag x4)→A5 j=(ay A3 (ag x1) 1 (au (fun _=>0) 0 128)) j)∧dS ⟨[],[v6],[x4],[A5],[],[],[]⟩)∧
 ∀(v6:V1) (x4:Int) (A5:Nat→Int),dS ⟨[],[v6],[x4],[A5],[],[],[]⟩→
 aw (0≤x4) (
 cg (x4+8) ((
 aJ (¬((ak .rem .i64 (x4+8) 64)=0)) (
 ∀_:Nat,nq ((x4+1)*1) (
 ∀v7:V1,∃(R5:V1) (dT:Int) (BP:Nat→Int),R5=v7∧R5=v7∧dT=(x4+1)∧(∀j,j<(ag dT)→BP j=(au A5 (ag x4) 0) j)∧dS ⟨[],[R5],[dT],[BP],[],[],[]⟩∧gv ⟨[],[R5],[dT],[BP],[],[],[]⟩<gv ⟨[],[v6],[x4],[A5],[],[],[]⟩)) (
 ∀_:V1,nq (x4+8) (
 ∀v8:V1,∃(lG:Ext→Prop) (ph:Ext→Nat),(∃(v9:V1) (x5:Int) (A6 A7:Nat→Int),v9=v8∧(∀j,j<8→A7 j=A4 j)∧v9=v8∧x5=(x4+8)∧(∀j,j<(ag x5)→A6 j=(ay A5 (ag x4) 8 (au (au (au (au (au (au (au (au (fun _=>0) 7 (ae .u8 (ak .shr .u64 (ak .shl .u64 x2 3) 0))) 6 (ae .u8 (ak .shr .u64 (ak .shl .u64 x2 3) 8))) 5 (ae .u8 (ak .shr .u64 (ak .shl .u64 x2 3) 16))) 4 (ae .u8 (ak .shr .u64 (ak .shl .u64 x2 3) 24))) 3 (ae .u8 (ak .shr .u64 (ak .shl .u64 x2 3) 32))) 2 (ae .u8 (ak .shr .u64 (ak .shl .u64 x2 3) 40))) 1 (ae .u8 (ak .shr .u64 (ak .shl .u64 x2 3) 48))) 0 (ae .u8 (ak .shr .u64 (ak .shl .u64 x2 3) 56)))) j)∧lG ⟨[],[v9],[x5],[A6,A7],[],[],[]⟩)∧
 ∀(v9:V1) (x5:Int) (A6 A7:Nat→Int),lG ⟨[],[v9],[x5],[A6,A7],[],[],[]⟩→
 aw (0≤x5) (
 aJ (0<x5) (
 aw (64≤x5) (
 Cl 151 [.pointer (some ⟨b0,0,none⟩),(aC 1 v9.v 0 64 none)] [al b0 true ([v0.v,v1.v,.int .i64 4,.int .i64 2,.int .i64 13,.int .i64 22,.int .i64 6,.int .i64 11,.int .i64 25,.int .i64 7,.int .i64 18,.int .i64 3,.int .i64 17,.int .i64 19,.int .i64 10]),aG true 225 1 v0.v 8 (aW 8 [bd .u32 1 A7]),aG true 225 1 v1.v 64 (aW 64 [bd .u32 1 A1]),bo v9 x5 A6] fun x hs _=> ∃A8:(Nat→Int),x= .tuple #[]∧hs=[al b0 true ([v0.v,v1.v,.int .i64 4,.int .i64 2,.int .i64 13,.int .i64 22,.int .i64 6,.int .i64 11,.int .i64 25,.int .i64 7,.int .i64 18,.int .i64 3,.int .i64 17,.int .i64 19,.int .i64 10]),aG true 225 1 v0.v 8 (aW 8 [bd .u32 1 A8]),aG true 225 1 v1.v 64 (aW 64 [bd .u32 1 A1]),bo v9 x5 A6]∧
 aw (64≤x5) (
 aw (0≤(x5 - 64)) (
 ∀v10:V1,∃(JN:V1) (jH:Int) (ui Cy:Nat→Int),JN=v10∧(∀j,j<8→Cy j=A8 j)∧JN=v10∧jH=(x5 - 64)∧(∀j,j<(ag jH)→ui j=(aI A6 64) j)∧lG ⟨[],[JN],[jH],[ui,Cy],[],[],[]⟩∧ph ⟨[],[JN],[jH],[ui,Cy],[],[],[]⟩<ph ⟨[],[v9],[x5],[A6,A7],[],[],[]⟩)))) (
 ∀(_:Nat) (_:V1) (_:Nat) (_:V1) (_:Nat) (_:V1) (_:Nat) (_:V1) (_:Nat) (_:V1) (_:Nat) (_:V1) (_:Nat) (_:V1) (_:Nat) (_:V1) (_:Nat) (_:V1) (_:Nat) (_:V1) (_:Nat) (_:V1) (_:Nat) (_:V1) (_:Nat) (_:V1) (_:Nat) (_:V1) (_:Nat) (_:V1) (_:Nat) (_:V1) (_:Nat) (_:V1) (_:Nat) (_:V1) (_:Nat) (_:V1) (_:Nat) (_:V1) (_:Nat) (_:V1) (_:Nat) (_:V1) (_:Nat) (_:V1) (_:Nat) (_:V1) (_:Nat) (_:V1) (_:Nat) (_:V1) (_:Nat) (_:V1) (_:Nat) (_:V1) (_:Nat) (_:V1) (_:Nat) (_:V1) (_:Nat) (_:V1) (_:Nat) (v41:V1),ao (v41.v) [bn true v41 32 (au (au (au (au (au (au (au (au (au (au (au (au (au (au (au (au (au (au (au (au (au (au (au (au (au (au (au (au (au (au (au (au (fun _=>0) 0 (ae .u8 (ak .shr .u32 (A7 0) 24))) 1 (ae .u8 (ak .shr .u32 (A7 0) 16))) 2 (ae .u8 (ak .shr .u32 (A7 0) 8))) 3 (ae .u8 (ak .shr .u32 (A7 0) 0))) 4 (ae .u8 (ak .shr .u32 (A7 1) 24))) 5 (ae .u8 (ak .shr .u32 (A7 1) 16))) 6 (ae .u8 (ak .shr .u32 (A7 1) 8))) 7 (ae .u8 (ak .shr .u32 (A7 1) 0))) 8 (ae .u8 (ak .shr .u32 (A7 2) 24))) 9 (ae .u8 (ak .shr .u32 (A7 2) 16))) 10 (ae .u8 (ak .shr .u32 (A7 2) 8))) 11 (ae .u8 (ak .shr .u32 (A7 2) 0))) 12 (ae .u8 (ak .shr .u32 (A7 3) 24))) 13 (ae .u8 (ak .shr .u32 (A7 3) 16))) 14 (ae .u8 (ak .shr .u32 (A7 3) 8))) 15 (ae .u8 (ak .shr .u32 (A7 3) 0))) 16 (ae .u8 (ak .shr .u32 (A7 4) 24))) 17 (ae .u8 (ak .shr .u32 (A7 4) 16))) 18 (ae .u8 (ak .shr .u32 (A7 4) 8))) 19 (ae .u8 (ak .shr .u32 (A7 4) 0))) 20 (ae .u8 (ak .shr .u32 (A7 5) 24))) 21 (ae .u8 (ak .shr .u32 (A7 5) 16))) 22 (ae .u8 (ak .shr .u32 (A7 5) 8))) 23 (ae .u8 (ak .shr .u32 (A7 5) 0))) 24 (ae .u8 (ak .shr .u32 (A7 6) 24))) 25 (ae .u8 (ak .shr .u32 (A7 6) 16))) 26 (ae .u8 (ak .shr .u32 (A7 6) 8))) 27 (ae .u8 (ak .shr .u32 (A7 6) 0))) 28 (ae .u8 (ak .shr .u32 (A7 7) 24))) 29 (ae .u8 (ak .shr .u32 (A7 7) 16))) 30 (ae .u8 (ak .shr .u32 (A7 7) 8))) 31 (ae .u8 (ak .shr .u32 (A7 7) 0)))])))))))))))
theorem LK(ao:PT)(x0:Int)(A0 A1 A2:Nat→Int)(v0 v1 v2:V1)(b0:Nat)(p0:HP)(h:By ao x0 A0 A1 A2 v0 v1 v2 b0 p0):gq 139 [.ptr 0 0,.vv 2] [.row 0 true [.vv 0,.vv 1,.int .i64 (.lit 4),.int .i64 (.lit 2),.int .i64 (.lit 13),.int .i64 (.lit 22),.int .i64 (.lit 6),.int .i64 (.lit 11),.int .i64 (.lit 25),.int .i64 (.lit 7),.int .i64 (.lit 18),.int .i64 (.lit 3),.int .i64 (.lit 17),.int .i64 (.lit 19),.int .i64 (.lit 10)],.bK true 0 225 1 (.lit 8) [⟨.int .u32,1,.aN 0⟩],.bK true 1 225 1 (.lit 64) [⟨.int .u32,1,.aN 1⟩],.bK false 2 24 1 (.var 0) [⟨CK.cv,1,.aN 2⟩],.abs 0] ⟨[x0],[A0,A1,A2],[],[b0],[v0,v1,v2],[],[p0],[]⟩ ao:=
 mtD (C:=Fu.cx) _ _ ⟨1,3,1,3,0,1,0⟩ _ 10 Tryz.func139 (by kernel_rfl) h
def Bz(ao:PT)(x0:Int)(A0 A1 A2:Nat→Int)(v0 v1 v2:V1)(b0:Nat)(p0:HP):Prop:=
 aw (0≤x0) (
 ∃(cc:Ext→Prop) (cu:Ext→Nat),(∃(v4:V1) (x1 x2 x3:Int) (A3 A4:Nat→Int),v4=(⟨.slice none 0 0,rfl⟩:V1)∧x2=0∧x3=0∧(∀j,j<8→A4 j=A0 j)∧v4=(⟨.slice none 0 0,rfl⟩:V1)∧x1=0∧(∀j,j<(ag x1)→A3 j=(fun _=>0) j)∧cc ⟨[],[v4],[x1,x2,x3],[A3,A4],[],[],[]⟩)∧
 ∀(v4:V1) (x1 x2 x3:Int) (A3 A4:Nat→Int),cc ⟨[],[v4],[x1,x2,x3],[A3,A4],[],[],[]⟩→
 aJ (x3<x0) (
 ∃JM:Ext→Prop,(∀(w:World) (Fs:List HP),bz ([aG false 24 1 v2.v (ag x0) (aW (ag x0) [cJ 1 (fun j=>bQ (A2 j))]),p0]++Fs) w→∃(v5:V1) (x4:Int) (A5:Nat→Int),bz ([aG false 24 1 v2.v (ag x0) (aW (ag x0) [cJ 1 (fun j=>if j=(ag x3)then v5.v else bQ (A2 j))]),p0,bi v5 x4 A5]++Fs) w∧JM ⟨[],[v5],[x4],[A5],[],[],[]⟩)∧
 (∀(v5:V1) (x4:Int) (A5:Nat→Int),JM ⟨[],[v5],[x4],[A5],[],[],[]⟩→
 aw (0≤x3) (
 ∃JM:Ext→Prop,(∀(w:World) (Fs:List HP),bz ([aG false 24 1 v2.v (ag x0) (aW (ag x0) [cJ 1 (fun j=>if j=(ag x3)then v5.v else bQ (A2 j))]),bi v5 x4 A5]++Fs) w→bz ([aG false 24 1 v2.v (ag x0) (aW (ag x0) [cJ 1 (fun j=>bQ (A2 j))]),bi v5 x4 A5]++Fs) w∧JM ⟨[],[],[],[],[],[],[]⟩)∧
 (JM ⟨[],[],[],[],[],[],[]⟩→
 aw (0≤x4) (
 aw (0≤x1) (
 nq (x1+x4) (
 ∀v6:V1,∃(HN:Ext→Prop) (OZ:Ext→Nat),(∃(v7:V1) (x5:Int) (A6 A7:Nat→Int),v7=v6∧(∀j,j<8→A7 j=A4 j)∧v7=v6∧x5=(x1+x4)∧(∀j,j<(ag x5)→A6 j=(ay A3 (ag x1) (ag x4) A5) j)∧HN ⟨[],[v7],[x5],[A6,A7],[],[],[]⟩)∧
 ∀(v7:V1) (x5:Int) (A6 A7:Nat→Int),HN ⟨[],[v7],[x5],[A6,A7],[],[],[]⟩→
 aw (0≤x5) (
 aJ (128≤x5) (
 Cl 152 [.pointer (some ⟨b0,0,none⟩),(aC 1 v7.v 0 128 none)] [al b0 true ([v0.v,v1.v,.int .i64 8,.int .i64 28,.int .i64 34,.int .i64 39,.int .i64 14,.int .i64 18,.int .i64 41,.int .i64 1,.int .i64 8,.int .i64 7,.int .i64 19,.int .i64 61,.int .i64 6]),aG true 23 1 v0.v 8 (aW 8 [bd .u64 1 A7]),aG true 23 1 v1.v 80 (aW 80 [bd .u64 1 A1]),bo v7 x5 A6] fun x hs _=> ∃A8:(Nat→Int),x= .tuple #[]∧hs=[al b0 true ([v0.v,v1.v,.int .i64 8,.int .i64 28,.int .i64 34,.int .i64 39,.int .i64 14,.int .i64 18,.int .i64 41,.int .i64 1,.int .i64 8,.int .i64 7,.int .i64 19,.int .i64 61,.int .i64 6]),aG true 23 1 v0.v 8 (aW 8 [bd .u64 1 A8]),aG true 23 1 v1.v 80 (aW 80 [bd .u64 1 A1]),bo v7 x5 A6]∧
 aw (128≤x5) (
 aw (0≤(x5 - 128)) (
 ∀v8:V1,∃(R4:V1) (jH:Int) (ui Cy:Nat→Int),R4=v8∧(∀j,j<8→Cy j=A8 j)∧R4=v8∧jH=(x5 - 128)∧(∀j,j<(ag jH)→ui j=(aI A6 128) j)∧HN ⟨[],[R4],[jH],[ui,Cy],[],[],[]⟩∧OZ ⟨[],[R4],[jH],[ui,Cy],[],[],[]⟩<OZ ⟨[],[v7],[x5],[A6,A7],[],[],[]⟩))) (
 cg (x3+1) ((
 ∃YV:Ext→Prop,(∀(w:World) (Fs:List HP),bz ([bi v5 x4 A5]++Fs) w→bz ([]++Fs) w∧YV ⟨[],[],[],[],[],[],[]⟩)∧
 (YV ⟨[],[],[],[],[],[],[]⟩→
 ∃(CN:V1) (dr ei dJ:Int) (jf BO:Nat→Int),CN=v7∧ei=(ae .u64 (x2+(ae .u64 x4)))∧dJ=(x3+1)∧(∀j,j<8→BO j=A7 j)∧CN=v7∧dr=x5∧(∀j,j<(ag dr)→jf j=A6 j)∧cc ⟨[],[CN],[dr,ei,dJ],[jf,BO],[],[],[]⟩∧cu ⟨[],[CN],[dr,ei,dJ],[jf,BO],[],[],[]⟩<cu ⟨[],[v4],[x1,x2,x3],[A3,A4],[],[],[]⟩)))))))))))) (
 aw (0≤x1) (
 ∀_:Nat,nq (x1+1) (
 ∀v5:V1,∃(dS:Ext→Prop) (gv:Ext→Nat),(∃(v6:V1) (x4:Int) (A5:Nat→Int),v6=v5∧v6=v5∧x4=(x1+1)∧(∀j,j<(ag x4)→A5 j=(ay A3 (ag x1) 1 (au (fun _=>0) 0 128)) j)∧dS ⟨[],[v6],[x4],[A5],[],[],[]⟩)∧
 ∀(v6:V1) (x4:Int) (A5:Nat→Int),dS ⟨[],[v6],[x4],[A5],[],[],[]⟩→
 aw (0≤x4) (
 cg (x4+16) ((
 aJ (¬((ak .rem .i64 (x4+16) 128)=0)) (
 ∀_:Nat,nq ((x4+1)*1) (
 ∀v7:V1,∃(R5:V1) (dT:Int) (BP:Nat→Int),R5=v7∧R5=v7∧dT=(x4+1)∧(∀j,j<(ag dT)→BP j=(au A5 (ag x4) 0) j)∧dS ⟨[],[R5],[dT],[BP],[],[],[]⟩∧gv ⟨[],[R5],[dT],[BP],[],[],[]⟩<gv ⟨[],[v6],[x4],[A5],[],[],[]⟩)) (
 ∀_:V1,nq (x4+16) (
 ∀v8:V1,∃(lG:Ext→Prop) (ph:Ext→Nat),(∃(v9:V1) (x5:Int) (A6 A7:Nat→Int),v9=v8∧(∀j,j<8→A7 j=A4 j)∧v9=v8∧x5=(x4+16)∧(∀j,j<(ag x5)→A6 j=(ay A5 (ag x4) 16 (au (au (au (au (au (au (au (au (fun _=>0) 15 (ae .u8 (ak .shr .u64 (ak .shl .u64 x2 3) 0))) 14 (ae .u8 (ak .shr .u64 (ak .shl .u64 x2 3) 8))) 13 (ae .u8 (ak .shr .u64 (ak .shl .u64 x2 3) 16))) 12 (ae .u8 (ak .shr .u64 (ak .shl .u64 x2 3) 24))) 11 (ae .u8 (ak .shr .u64 (ak .shl .u64 x2 3) 32))) 10 (ae .u8 (ak .shr .u64 (ak .shl .u64 x2 3) 40))) 9 (ae .u8 (ak .shr .u64 (ak .shl .u64 x2 3) 48))) 8 (ae .u8 (ak .shr .u64 (ak .shl .u64 x2 3) 56)))) j)∧lG ⟨[],[v9],[x5],[A6,A7],[],[],[]⟩)∧
 ∀(v9:V1) (x5:Int) (A6 A7:Nat→Int),lG ⟨[],[v9],[x5],[A6,A7],[],[],[]⟩→
 aw (0≤x5) (
 aJ (0<x5) (
 aw (128≤x5) (
 Cl 152 [.pointer (some ⟨b0,0,none⟩),(aC 1 v9.v 0 128 none)] [al b0 true ([v0.v,v1.v,.int .i64 8,.int .i64 28,.int .i64 34,.int .i64 39,.int .i64 14,.int .i64 18,.int .i64 41,.int .i64 1,.int .i64 8,.int .i64 7,.int .i64 19,.int .i64 61,.int .i64 6]),aG true 23 1 v0.v 8 (aW 8 [bd .u64 1 A7]),aG true 23 1 v1.v 80 (aW 80 [bd .u64 1 A1]),bo v9 x5 A6] fun x hs _=> ∃A8:(Nat→Int),x= .tuple #[]∧hs=[al b0 true ([v0.v,v1.v,.int .i64 8,.int .i64 28,.int .i64 34,.int .i64 39,.int .i64 14,.int .i64 18,.int .i64 41,.int .i64 1,.int .i64 8,.int .i64 7,.int .i64 19,.int .i64 61,.int .i64 6]),aG true 23 1 v0.v 8 (aW 8 [bd .u64 1 A8]),aG true 23 1 v1.v 80 (aW 80 [bd .u64 1 A1]),bo v9 x5 A6]∧
 aw (128≤x5) (
 aw (0≤(x5 - 128)) (
 ∀v10:V1,∃(JN:V1) (jH:Int) (ui Cy:Nat→Int),JN=v10∧(∀j,j<8→Cy j=A8 j)∧JN=v10∧jH=(x5 - 128)∧(∀j,j<(ag jH)→ui j=(aI A6 128) j)∧lG ⟨[],[JN],[jH],[ui,Cy],[],[],[]⟩∧ph ⟨[],[JN],[jH],[ui,Cy],[],[],[]⟩<ph ⟨[],[v9],[x5],[A6,A7],[],[],[]⟩)))) (
 ∀(_:Nat) (_:V1) (_:Nat) (_:V1) (_:Nat) (_:V1) (_:Nat) (_:V1) (_:Nat) (_:V1) (_:Nat) (_:V1) (_:Nat) (_:V1) (_:Nat) (_:V1) (_:Nat) (_:V1) (_:Nat) (_:V1) (_:Nat) (_:V1) (_:Nat) (_:V1) (_:Nat) (_:V1) (_:Nat) (_:V1) (_:Nat) (_:V1) (_:Nat) (_:V1) (_:Nat) (_:V1) (_:Nat) (_:V1) (_:Nat) (_:V1) (_:Nat) (_:V1) (_:Nat) (_:V1) (_:Nat) (_:V1) (_:Nat) (_:V1) (_:Nat) (_:V1) (_:Nat) (_:V1) (_:Nat) (_:V1) (_:Nat) (_:V1) (_:Nat) (_:V1) (_:Nat) (_:V1) (_:Nat) (_:V1) (_:Nat) (_:V1) (_:Nat) (_:V1) (_:Nat) (_:V1) (_:Nat) (_:V1) (_:Nat) (_:V1) (_:Nat) (_:V1) (_:Nat) (_:V1) (_:Nat) (_:V1) (_:Nat) (_:V1) (_:Nat) (_:V1) (_:Nat) (_:V1) (_:Nat) (_:V1) (_:Nat) (_:V1) (_:Nat) (_:V1) (_:Nat) (_:V1) (_:Nat) (_:V1) (_:Nat) (_:V1) (_:Nat) (_:V1) (_:Nat) (_:V1) (_:Nat) (_:V1) (_:Nat) (_:V1) (_:Nat) (_:V1) (_:Nat) (_:V1) (_:Nat) (_:V1) (_:Nat) (_:V1) (_:Nat) (_:V1) (_:Nat) (_:V1) (_:Nat) (_:V1) (_:Nat) (_:V1) (_:Nat) (_:V1) (_:Nat) (_:V1) (_:Nat) (_:V1) (_:Nat) (_:V1) (_:Nat) (v73:V1),ao (v73.v) [bn true v73 64 (au (au (au (au (au (au (au (au (au (au (au (au (au (au (au (au (au (au (au (au (au (au (au (au (au (au (au (au (au (au (au (au (au (au (au (au (au (au (au (au (au (au (au (au (au (au (au (au (au (au (au (au (au (au (au (au (au (au (au (au (au (au (au (au (fun _=>0) 0 (ae .u8 (ak .shr .u64 (A7 0) 56))) 1 (ae .u8 (ak .shr .u64 (A7 0) 48))) 2 (ae .u8 (ak .shr .u64 (A7 0) 40))) 3 (ae .u8 (ak .shr .u64 (A7 0) 32))) 4 (ae .u8 (ak .shr .u64 (A7 0) 24))) 5 (ae .u8 (ak .shr .u64 (A7 0) 16))) 6 (ae .u8 (ak .shr .u64 (A7 0) 8))) 7 (ae .u8 (ak .shr .u64 (A7 0) 0))) 8 (ae .u8 (ak .shr .u64 (A7 1) 56))) 9 (ae .u8 (ak .shr .u64 (A7 1) 48))) 10 (ae .u8 (ak .shr .u64 (A7 1) 40))) 11 (ae .u8 (ak .shr .u64 (A7 1) 32))) 12 (ae .u8 (ak .shr .u64 (A7 1) 24))) 13 (ae .u8 (ak .shr .u64 (A7 1) 16))) 14 (ae .u8 (ak .shr .u64 (A7 1) 8))) 15 (ae .u8 (ak .shr .u64 (A7 1) 0))) 16 (ae .u8 (ak .shr .u64 (A7 2) 56))) 17 (ae .u8 (ak .shr .u64 (A7 2) 48))) 18 (ae .u8 (ak .shr .u64 (A7 2) 40))) 19 (ae .u8 (ak .shr .u64 (A7 2) 32))) 20 (ae .u8 (ak .shr .u64 (A7 2) 24))) 21 (ae .u8 (ak .shr .u64 (A7 2) 16))) 22 (ae .u8 (ak .shr .u64 (A7 2) 8))) 23 (ae .u8 (ak .shr .u64 (A7 2) 0))) 24 (ae .u8 (ak .shr .u64 (A7 3) 56))) 25 (ae .u8 (ak .shr .u64 (A7 3) 48))) 26 (ae .u8 (ak .shr .u64 (A7 3) 40))) 27 (ae .u8 (ak .shr .u64 (A7 3) 32))) 28 (ae .u8 (ak .shr .u64 (A7 3) 24))) 29 (ae .u8 (ak .shr .u64 (A7 3) 16))) 30 (ae .u8 (ak .shr .u64 (A7 3) 8))) 31 (ae .u8 (ak .shr .u64 (A7 3) 0))) 32 (ae .u8 (ak .shr .u64 (A7 4) 56))) 33 (ae .u8 (ak .shr .u64 (A7 4) 48))) 34 (ae .u8 (ak .shr .u64 (A7 4) 40))) 35 (ae .u8 (ak .shr .u64 (A7 4) 32))) 36 (ae .u8 (ak .shr .u64 (A7 4) 24))) 37 (ae .u8 (ak .shr .u64 (A7 4) 16))) 38 (ae .u8 (ak .shr .u64 (A7 4) 8))) 39 (ae .u8 (ak .shr .u64 (A7 4) 0))) 40 (ae .u8 (ak .shr .u64 (A7 5) 56))) 41 (ae .u8 (ak .shr .u64 (A7 5) 48))) 42 (ae .u8 (ak .shr .u64 (A7 5) 40))) 43 (ae .u8 (ak .shr .u64 (A7 5) 32))) 44 (ae .u8 (ak .shr .u64 (A7 5) 24))) 45 (ae .u8 (ak .shr .u64 (A7 5) 16))) 46 (ae .u8 (ak .shr .u64 (A7 5) 8))) 47 (ae .u8 (ak .shr .u64 (A7 5) 0))) 48 (ae .u8 (ak .shr .u64 (A7 6) 56))) 49 (ae .u8 (ak .shr .u64 (A7 6) 48))) 50 (ae .u8 (ak .shr .u64 (A7 6) 40))) 51 (ae .u8 (ak .shr .u64 (A7 6) 32))) 52 (ae .u8 (ak .shr .u64 (A7 6) 24))) 53 (ae .u8 (ak .shr .u64 (A7 6) 16))) 54 (ae .u8 (ak .shr .u64 (A7 6) 8))) 55 (ae .u8 (ak .shr .u64 (A7 6) 0))) 56 (ae .u8 (ak .shr .u64 (A7 7) 56))) 57 (ae .u8 (ak .shr .u64 (A7 7) 48))) 58 (ae .u8 (ak .shr .u64 (A7 7) 40))) 59 (ae .u8 (ak .shr .u64 (A7 7) 32))) 60 (ae .u8 (ak .shr .u64 (A7 7) 24))) 61 (ae .u8 (ak .shr .u64 (A7 7) 16))) 62 (ae .u8 (ak .shr .u64 (A7 7) 8))) 63 (ae .u8 (ak .shr .u64 (A7 7) 0)))])))))))))))
theorem LL(ao:PT)(x0:Int)(A0 A1 A2:Nat→Int)(v0 v1 v2:V1)(b0:Nat)(p0:HP)(h:Bz ao x0 A0 A1 A2 v0 v1 v2 b0 p0):gq 141 [.ptr 0 0,.vv 2] [.row 0 true [.vv 0,.vv 1,.int .i64 (.lit 8),.int .i64 (.lit 28),.int .i64 (.lit 34),.int .i64 (.lit 39),.int .i64 (.lit 14),.int .i64 (.lit 18),.int .i64 (.lit 41),.int .i64 (.lit 1),.int .i64 (.lit 8),.int .i64 (.lit 7),.int .i64 (.lit 19),.int .i64 (.lit 61),.int .i64 (.lit 6)],.bK true 0 23 1 (.lit 8) [⟨.int .u64,1,.aN 0⟩],.bK true 1 23 1 (.lit 80) [⟨.int .u64,1,.aN 1⟩],.bK false 2 24 1 (.var 0) [⟨CK.cv,1,.aN 2⟩],.abs 0] ⟨[x0],[A0,A1,A2],[],[b0],[v0,v1,v2],[],[p0],[]⟩ ao:=
 mtD (C:=Fu.cx) _ _ ⟨1,3,1,3,0,1,0⟩ _ 10 Tryz.func141 (by kernel_rfl) h
def BA(ao:PT)(x0:Int)(A0:Nat→Int)(v0:V1)(p0:HP):Prop:=
 ∀_:Nat,Cl 138 [] [] fun x hs _=> ∃(b1:Nat) (v1 v2:V1) (A1 A2:Nat→Int),x= .pointer (some ⟨b1,0,none⟩)∧hs=[al b1 true ([v1.v,v2.v,.int .i64 4,.int .i64 2,.int .i64 13,.int .i64 22,.int .i64 6,.int .i64 11,.int .i64 25,.int .i64 7,.int .i64 18,.int .i64 3,.int .i64 17,.int .i64 19,.int .i64 10]),aG true 225 1 v1.v 8 (aW 8 [bd .u32 1 A1]),aG true 225 1 v2.v 64 (aW 64 [bd .u32 1 A2])]∧
 Cl 139 [.pointer (some ⟨b1,0,none⟩),v0.v] [al b1 true ([v1.v,v2.v,.int .i64 4,.int .i64 2,.int .i64 13,.int .i64 22,.int .i64 6,.int .i64 11,.int .i64 25,.int .i64 7,.int .i64 18,.int .i64 3,.int .i64 17,.int .i64 19,.int .i64 10]),aG true 225 1 v1.v 8 (aW 8 [bd .u32 1 A1]),aG true 225 1 v2.v 64 (aW 64 [bd .u32 1 A2]),aG false 24 1 v0.v (ag x0) (aW (ag x0) [cJ 1 (fun j=>bQ (A0 j))]),p0] fun x hs _=> ∃(v3:V1) (A3:Nat→Int),x=v3.v∧hs=[bn true v3 32 A3]∧
 ao (.agg (aiL (aj .u8 32 A3) ([])).toArray) []
theorem LM(ao:PT)(x0:Int)(A0:Nat→Int)(v0:V1)(p0:HP)(h:BA ao x0 A0 v0 p0):gq 115 [.vv 0] [.bK false 0 24 1 (.var 0) [⟨CK.cv,1,.aN 0⟩],.abs 0] ⟨[x0],[A0],[],[],[v0],[],[p0],[]⟩ ao:=
 mtD (C:=Fu.cx) _ _ ⟨0,1,1,1,0,1,0⟩ _ 0 Tryz.func115 (by kernel_rfl) h
def BB(ao:PT)(x0:Int)(A0:Nat→Int)(v0:V1)(p0:HP):Prop:=
 ∀_:Nat,Cl 140 [] [] fun x hs _=> ∃(b1:Nat) (v1 v2:V1) (A1 A2:Nat→Int),x= .pointer (some ⟨b1,0,none⟩)∧hs=[al b1 true ([v1.v,v2.v,.int .i64 8,.int .i64 28,.int .i64 34,.int .i64 39,.int .i64 14,.int .i64 18,.int .i64 41,.int .i64 1,.int .i64 8,.int .i64 7,.int .i64 19,.int .i64 61,.int .i64 6]),aG true 23 1 v1.v 8 (aW 8 [bd .u64 1 A1]),aG true 23 1 v2.v 80 (aW 80 [bd .u64 1 A2])]∧
 Cl 141 [.pointer (some ⟨b1,0,none⟩),v0.v] [al b1 true ([v1.v,v2.v,.int .i64 8,.int .i64 28,.int .i64 34,.int .i64 39,.int .i64 14,.int .i64 18,.int .i64 41,.int .i64 1,.int .i64 8,.int .i64 7,.int .i64 19,.int .i64 61,.int .i64 6]),aG true 23 1 v1.v 8 (aW 8 [bd .u64 1 A1]),aG true 23 1 v2.v 80 (aW 80 [bd .u64 1 A2]),aG false 24 1 v0.v (ag x0) (aW (ag x0) [cJ 1 (fun j=>bQ (A0 j))]),p0] fun x hs _=> ∃(v3:V1) (A3:Nat→Int),x=v3.v∧hs=[bn true v3 64 A3]∧
 ao (.agg (aiL (aj .u8 64 A3) ([])).toArray) []
theorem LN(ao:PT)(x0:Int)(A0:Nat→Int)(v0:V1)(p0:HP)(h:BB ao x0 A0 v0 p0):gq 116 [.vv 0] [.bK false 0 24 1 (.var 0) [⟨CK.cv,1,.aN 0⟩],.abs 0] ⟨[x0],[A0],[],[],[v0],[],[p0],[]⟩ ao:=
 mtD (C:=Fu.cx) _ _ ⟨0,1,1,1,0,1,0⟩ _ 0 Tryz.func116 (by kernel_rfl) h
def zq(ao:PT)(x0:Int)(A0:Nat→Int)(v0:V1)(p0:HP):Prop:=
 Cl 115 [v0.v] [aG false 24 1 v0.v (ag x0) (aW (ag x0) [cJ 1 (fun j=>bQ (A0 j))]),p0] fun x hs _=> ∃A1:(Nat→Int),x= .agg (aiL (aj .u8 32 A1) ([])).toArray∧hs=[]∧
 ∀b0:Nat,ao (.slice (some ⟨b0,0,none⟩) 32 32) [al b0 true (aiL (aj .u8 32 A1) ([]))]
theorem HO(ao:PT)(x0:Int)(A0:Nat→Int)(v0:V1)(p0:HP)(h:zq ao x0 A0 v0 p0):gq 96 [.int .u8 (.lit 1),.vv 0] [.bK false 0 24 1 (.var 0) [⟨CK.cv,1,.aN 0⟩],.abs 0] ⟨[x0],[A0],[],[],[v0],[],[p0],[]⟩ ao:=
 qX (C:=Fu.cx) _ _ ⟨0,1,1,1,0,1,0⟩ _ 0 1 Tryz.func96 (by kernel_rfl) h
def zt(ao:PT)(x0:Int)(A0:Nat→Int)(v0:V1)(p0:HP):Prop:=
 Cl 116 [v0.v] [aG false 24 1 v0.v (ag x0) (aW (ag x0) [cJ 1 (fun j=>bQ (A0 j))]),p0] fun x hs _=> ∃A1:(Nat→Int),x= .agg (aiL (aj .u8 64 A1) ([])).toArray∧hs=[]∧
 ∀b0:Nat,ao (.slice (some ⟨b0,0,none⟩) 64 64) [al b0 true (aiL (aj .u8 64 A1) ([]))]
theorem HQ(ao:PT)(x0:Int)(A0:Nat→Int)(v0:V1)(p0:HP)(h:zt ao x0 A0 v0 p0):gq 96 [.int .u8 (.lit 2),.vv 0] [.bK false 0 24 1 (.var 0) [⟨CK.cv,1,.aN 0⟩],.abs 0] ⟨[x0],[A0],[],[],[v0],[],[p0],[]⟩ ao:=
 qX (C:=Fu.cx) _ _ ⟨0,1,1,1,0,1,0⟩ _ 0 1 Tryz.func96 (by kernel_rfl) h
end Go.RX.Fu
