/- SHA-256's block. -/
import Derived.Test.YtmgbbbmdbpbeeaaM25
open Go.IntKind renaming wrap → ae
open Go.Proofs.Try renaming prog → adE
open Int renaming natCast_add → adH, toNat → ag
open List renaming append → ads
open Nat renaming eq_of_testBit_eq → aei, lt_of_lt_of_le → adI, mod_eq_of_lt → adQ, xor_comm → ad5
namespace Go.RX.Sh
open Go.RX
def m7(x n:Nat):Nat:=x/2^n+x*2^(32 - n)%2^32
def s0(x:Nat):Nat:=m7 x 7^^^m7 x 18^^^x/2^3
def s1(x:Nat):Nat:=m7 x 17^^^m7 x 19^^^x/2^10
def S0(x:Nat):Nat:=m7 x 2^^^m7 x 13^^^m7 x 22
def S1(x:Nat):Nat:=m7 x 6^^^m7 x 11^^^m7 x 25
def ch(x y z:Nat):Nat:=(x &&& y)^^^((2^32 - 1 - x) &&& z)
def UY(x y z:Nat):Nat:=(x &&& y)^^^(x &&& z)^^^(y &&& z)
def word(B:Nat→Nat)(t:Nat):Nat:=((B (4*t)*256+B (4*t+1))*256+B (4*t+2))*256+B (4*t+3)
def fy(B:Nat→Nat):Nat→Nat→Nat
 | 0=>fun t=>if t<16 then word B t else 0
 | n+1=>fun t=>if t=n+16 then(s1 (fy B n (n+14))+fy B n (n+9)+s0 (fy B n (n+1))+fy B n n)%2^32 else fy B n t
def EA(v:Nat→Nat)(k w:Nat):Nat:=(v 7+S1 (v 4)+ch (v 4) (v 5) (v 6)+k+w)%2^32
def step(v:Nat→Nat)(k w j:Nat):Nat:=
 if j=0 then(EA v k w+(S0 (v 0)+UY (v 0) (v 1) (v 2))%2^32)%2^32
 else if j=4 then(v 3+EA v k w)%2^32
 else if j<8 then v (j - 1)else 0
theorem Sr(v:Nat→Nat)(k w:Nat):step v k w 0=(EA v k w+(S0 (v 0)+UY (v 0) (v 1) (v 2))%2^32)%2^32:=by
 unfold step;rw [if_pos rfl]
theorem Ss(v:Nat→Nat)(k w:Nat):step v k w 4=(v 3+EA v k w)%2^32:=by
 unfold step;rw [if_neg (by decide),if_pos rfl]
theorem tW(v:Nat→Nat)(k w:Nat){j:Nat}(h0:j≠0)(h4:j≠4)(h8:j<8):step v k w j=v (j - 1):=by
 unfold step;rw [if_neg h0,if_neg h4,if_pos h8]
def TA(K W H:Nat→Nat):Nat→Nat→Nat
 | 0=>H
 | n+1=>step (TA K W H n) (K n) (W n)
def comp(K H B:Nat→Nat)(j:Nat):Nat:=(H j+TA K (fy B 48) H 64 j)%2^32
theorem tX{a b n:Nat}(ha:a<2^n)(hb:b<2^n):a^^^b<2^n:=Nat.xor_lt_two_pow ha hb
theorem n8{a b n:Nat}(ha:a<2^n):a &&& b<2^n:=Nat.lt_of_le_of_lt Nat.and_le_left ha
theorem kJ{x n:Nat}(hx:x<2^32)(hn:n≤32):m7 x n<2^32:=by
 unfold m7;have h1:x*2^(32 - n)%2^32=x%2^n*2^(32 - n):=by
  have:(2:Nat)^32=2^n*2^(32 - n):=by rw [←Nat.pow_add];congr 1;omega
  rw [this,Nat.mul_mod_mul_right]
 rw [h1];have h2:x/2^n<2^(32 - n):=by
  apply Nat.div_lt_of_lt_mul;rw [←Nat.pow_add]
  rwa [show n+(32 - n)=32 by omega]
 have h3:x%2^n<2^n:=Nat.mod_lt _ (Nat.two_pow_pos n);have h4:(x%2^n+1)*2^(32 - n)≤2^n*2^(32 - n):=Nat.mul_le_mul_right _ h3;rw [←Nat.pow_add,show n+(32 - n)=32 by omega,Nat.add_mul]at h4;omega
theorem PD{x n:Nat}(hx:x<2^32)(hn:n≤32):(x >>> n)|||(x*2^(32 - n)%2^32)=m7 x n:=by
 unfold m7;have h1:x*2^(32 - n)%2^32=2^(32 - n)*(x%2^n):=by
  have:(2:Nat)^32=2^n*2^(32 - n):=by rw [←Nat.pow_add];congr 1;omega
  rw [this,Nat.mul_mod_mul_right,Nat.mul_comm]
 have h2:x/2^n<2^(32 - n):=by
  apply Nat.div_lt_of_lt_mul;rw [←Nat.pow_add]
  rwa [show n+(32 - n)=32 by omega]
 rw [h1,Nat.shiftRight_eq_div_pow,Nat.or_comm,←Nat.two_pow_add_eq_or_of_lt h2,Nat.add_comm]
theorem wrap_u32(n:Nat):ae .u32 (n:Int)=((n%2^32:Nat):Int):=by
 simp [ae,IntKind.signed,IntKind.bits]
theorem wrap_u64(n:Nat):ae .u64 (n:Int)=((n%2^64:Nat):Int):=by
 simp [ae,IntKind.signed,IntKind.bits]
theorem wrap_u8(n:Nat):ae .u8 (n:Int)=((n%2^8:Nat):Int):=by
 simp [ae,IntKind.signed,IntKind.bits]
theorem cj(w n:Nat):(BitVec.ofInt w (n:Int)).toNat=n%2^w:=by
 simp
theorem vf{a b:Nat}(ha:a<2^32)(hb:b<2^32):ak .aD .u32 (a:Int) (b:Int)=((a^^^b:Nat):Int):=by
 show ae .u32 ((BitVec.ofInt 32 (a:Int)^^^BitVec.ofInt 32 (b:Int)).toNat:Int)=_;rw [wrap_u32,BitVec.toNat_xor,cj,cj,adQ ha,adQ hb,adQ (tX ha hb)]
theorem EB{a b:Nat}(ha:a<2^32)(hb:b<2^32):ak .aQ .u32 (a:Int) (b:Int)=((a &&& b:Nat):Int):=by
 show ae .u32 ((BitVec.ofInt 32 (a:Int) &&& BitVec.ofInt 32 (b:Int)).toNat:Int)=_;rw [wrap_u32,BitVec.toNat_and,cj,cj,adQ ha,adQ hb,adQ (n8 ha)]
theorem UZ{a b:Nat}(ha:a<2^32)(hb:b<2^32):ak .bJ .u32 (a:Int) (b:Int)=((a|||b:Nat):Int):=by
 show ae .u32 ((BitVec.ofInt 32 (a:Int)|||BitVec.ofInt 32 (b:Int)).toNat:Int)=_;rw [wrap_u32,BitVec.toNat_or,cj,cj,adQ ha,adQ hb,adQ (Nat.or_lt_two_pow ha hb)]
theorem Mr{a b:Nat}(ha:a<2^64)(hb:b<2^64):ak .aD .u64 (a:Int) (b:Int)=((a^^^b:Nat):Int):=by
 show ae .u64 ((BitVec.ofInt 64 (a:Int)^^^BitVec.ofInt 64 (b:Int)).toNat:Int)=_;rw [wrap_u64,BitVec.toNat_xor,cj,cj,adQ ha,adQ hb,adQ (tX ha hb)]
theorem Ms{a b:Nat}(ha:a<2^64)(hb:b<2^64):ak .aQ .u64 (a:Int) (b:Int)=((a &&& b:Nat):Int):=by
 show ae .u64 ((BitVec.ofInt 64 (a:Int) &&& BitVec.ofInt 64 (b:Int)).toNat:Int)=_;rw [wrap_u64,BitVec.toNat_and,cj,cj,adQ ha,adQ hb,adQ (n8 ha)]
theorem fM(k:IntKind)(a n:Nat)(hn:n≤k.bits):ak .shr k (a:Int) (n:Int)=((a >>> n:Nat):Int):=by
 show Int.fdiv (a:Int) (2^(min (n:Int).toNat k.bits))=_;rw [Int.toNat_natCast,Nat.min_eq_left hn,Nat.shiftRight_eq_div_pow,Int.fdiv_eq_ediv_of_nonneg _ (by exact Int.le_of_lt (Int.pow_pos (by decide)))];rw [Int.natCast_ediv,Int.natCast_pow];rfl
theorem Q8(a n:Nat)(hn:n≤32):ak .shl .u32 (a:Int) (n:Int)=((a*2^n%2^32:Nat):Int):=by
 show ae .u32 ((a:Int)*2^(min (n:Int).toNat 32))=_;rw [Int.toNat_natCast,Nat.min_eq_left hn];have:(a:Int)*2^n=((a*2^n:Nat):Int):=by rw [Int.natCast_mul,Int.natCast_pow];rfl
 rw [this,wrap_u32]
theorem EC{x n:Nat}(hx:x<2^32)(hn:n≤32):ak .bJ .u32 (ak .shr .u32 (x:Int) (n:Int)) (ak .shl .u32 (x:Int) ((32 - n:Nat):Int))=((m7 x n:Nat):Int):=by
 rw [fM .u32 x n hn,Q8 x (32 - n) (by omega),UZ (Nat.lt_of_le_of_lt (by rw [Nat.shiftRight_eq_div_pow];exact Nat.div_le_self _ _) hx) (Nat.mod_lt _ (by decide)),PD hx hn]
theorem PE{x n:Nat}(hx:x<2^32):x/2^n<2^32:=Nat.lt_of_le_of_lt (Nat.div_le_self _ _) hx
theorem pS{x a b c:Nat}(hx:x<2^32)(ha:a≤32)(hb:b≤32)(hc:c≤32):
  ak .aD .u32 (ak .aD .u32 (ak .bJ .u32 (ak .shr .u32 (x:Int) (a:Int)) (ak .shl .u32 (x:Int) ((32 - a:Nat):Int))) (ak .bJ .u32 (ak .shr .u32 (x:Int) (b:Int)) (ak .shl .u32 (x:Int) ((32 - b:Nat):Int))))
   (ak .bJ .u32 (ak .shr .u32 (x:Int) (c:Int)) (ak .shl .u32 (x:Int) ((32 - c:Nat):Int)))=((m7 x a^^^m7 x b^^^m7 x c:Nat):Int):=by
 rw [EC hx ha,EC hx hb,EC hx hc,vf (kJ hx ha) (kJ hx hb),vf (tX (kJ hx ha) (kJ hx hb)) (kJ hx hc)]
theorem ps{x a b c:Nat}(hx:x<2^32)(ha:a≤32)(hb:b≤32)(hc:c≤32):
  ak .aD .u32 (ak .aD .u32 (ak .bJ .u32 (ak .shr .u32 (x:Int) (a:Int)) (ak .shl .u32 (x:Int) ((32 - a:Nat):Int))) (ak .bJ .u32 (ak .shr .u32 (x:Int) (b:Int)) (ak .shl .u32 (x:Int) ((32 - b:Nat):Int))))
   (ak .shr .u32 (x:Int) (c:Int))=((m7 x a^^^m7 x b^^^x/2^c:Nat):Int):=by
 rw [EC hx ha,EC hx hb,fM .u32 x c hc,vf (kJ hx ha) (kJ hx hb),Nat.shiftRight_eq_div_pow,vf (tX (kJ hx ha) (kJ hx hb)) (PE hx)]
theorem XK{x:Nat}(hx:x<2^32):ak .aD .u32 (ak .aD .u32 (ak .bJ .u32 (ak .shr .u32 (x:Int) 7) (ak .shl .u32 (x:Int) 25)) (ak .bJ .u32 (ak .shr .u32 (x:Int) 18) (ak .shl .u32 (x:Int) 14))) (ak .shr .u32 (x:Int) 3)=((s0 x:Nat):Int):=
 ps (a:=7) (b:=18) (c:=3) hx (by decide) (by decide) (by decide)
theorem XL{x:Nat}(hx:x<2^32):ak .aD .u32 (ak .aD .u32 (ak .bJ .u32 (ak .shr .u32 (x:Int) 17) (ak .shl .u32 (x:Int) 15)) (ak .bJ .u32 (ak .shr .u32 (x:Int) 19) (ak .shl .u32 (x:Int) 13))) (ak .shr .u32 (x:Int) 10)=((s1 x:Nat):Int):=
 ps (a:=17) (b:=19) (c:=10) hx (by decide) (by decide) (by decide)
theorem XM{x:Nat}(hx:x<2^32):ak .aD .u32 (ak .aD .u32 (ak .bJ .u32 (ak .shr .u32 (x:Int) 2) (ak .shl .u32 (x:Int) 30)) (ak .bJ .u32 (ak .shr .u32 (x:Int) 13) (ak .shl .u32 (x:Int) 19))) (ak .bJ .u32 (ak .shr .u32 (x:Int) 22) (ak .shl .u32 (x:Int) 10))=((S0 x:Nat):Int):=
 pS (a:=2) (b:=13) (c:=22) hx (by decide) (by decide) (by decide)
theorem XN{x:Nat}(hx:x<2^32):ak .aD .u32 (ak .aD .u32 (ak .bJ .u32 (ak .shr .u32 (x:Int) 6) (ak .shl .u32 (x:Int) 26)) (ak .bJ .u32 (ak .shr .u32 (x:Int) 11) (ak .shl .u32 (x:Int) 21))) (ak .bJ .u32 (ak .shr .u32 (x:Int) 25) (ak .shl .u32 (x:Int) 7))=((S1 x:Nat):Int):=
 pS (a:=6) (b:=11) (c:=25) hx (by decide) (by decide) (by decide)
theorem U0{x:Nat}(hx:x<2^32):(4294967295:Nat)^^^x=2^32 - 1 - x:=by
 have h:=ad5 4294967295 x;apply aei;intro i;rw [Nat.testBit_xor,show(4294967295:Nat)=2^32 - 1 from rfl,Nat.testBit_two_pow_sub_one,show 2^32 - 1 - x=2^32 - (x+1) by omega,Nat.testBit_two_pow_sub_succ hx];by_cases hi:i<32
 ·simp [hi]
 ·have:x.testBit i=false:=Nat.testBit_lt_two_pow (adI hx (Nat.pow_le_pow_right (by decide) (by omega)));simp [hi,this]
theorem XO{x y z:Nat}(hx:x<2^32)(hy:y<2^32)(hz:z<2^32):ak .aD .u32 (ak .aQ .u32 (x:Int) (y:Int)) (ak .aQ .u32 (ak .aD .u32 4294967295 (x:Int)) (z:Int))=((ch x y z:Nat):Int):=by
 have h1:ak .aD .u32 4294967295 (x:Int)=((2^32 - 1 - x:Nat):Int):=by
  rw [←U0 hx];exact vf (a:=4294967295) (by decide) hx
 rw [h1,EB hx hy,EB (by omega) hz,vf (n8 hx) (n8 (by omega))];rfl
theorem U1{x y z:Nat}(hx:x<2^32)(hy:y<2^32)(hz:z<2^32):ak .aD .u32 (ak .aD .u32 (ak .aQ .u32 (x:Int) (y:Int)) (ak .aQ .u32 (x:Int) (z:Int))) (ak .aQ .u32 (y:Int) (z:Int))=((UY x y z:Nat):Int):=by
 rw [EB hx hy,EB hx hz,EB hy hz,vf (n8 hx) (n8 hx),vf (tX (n8 hx) (n8 hx)) (n8 hy)];rfl
theorem pr(a b:Nat):ae .u32 ((a:Int)+(b:Int))=(((a+b)%2^32:Nat):Int):=by rw [←adH,wrap_u32]
theorem Mt{B:Nat→Nat}(hB: ∀j,j<64→B j<256): ∀(n t:Nat),fy B n t<2^32
 | 0,t=>by
  unfold fy;split
  ·rename_i h;have h0:=hB (4*t) (by omega);have h1:=hB (4*t+1) (by omega);have h2:=hB (4*t+2) (by omega);have h3:=hB (4*t+3) (by omega);unfold word;omega
  ·decide
 | n+1,t=>by
  unfold fy;split
  ·exact Nat.mod_lt _ (by decide)
  ·exact Mt hB n t
theorem PF{v:Nat→Nat}(hv: ∀j,j<8→v j<2^32)(k w:Nat)(j:Nat)(hj:j<8):step v k w j<2^32:=by
 have hp:0<2^32:=Nat.two_pow_pos 32;unfold step;split
 ·exact Nat.mod_lt _ hp
 ·split
  ·exact Nat.mod_lt _ hp
  ·exact hv _ (by omega)
theorem Mu{K W H:Nat→Nat}(hH: ∀j,j<8→H j<2^32): ∀n j,j<8→TA K W H n j<2^32
 | 0=>hH
 | n+1=>PF (Mu hH n) _ _
theorem PG{K H B:Nat→Nat}(j:Nat):comp K H B j<2^32:=Nat.mod_lt _ (by decide)
def fill(B:Nat→Nat):Nat→Nat→Nat
 | 0=>fun _=>0
 | i+1=>fun t=>if t=i/4 then(fill B i (i/4)*256%2^32)|||B i else fill B i t
def part(B:Nat→Nat)(t:Nat):Nat→Nat
 | 0=>0
 | k+1=>part B t k*256+B (4*t+k)
theorem Ia{B:Nat→Nat}{t:Nat}(hB: ∀j,j<64→B j<256)(ht:t<16): ∀k,k≤4→part B t k<256^k
 | 0,_=>by simp [part]
 | k+1,hk=>by
  have:=Ia hB ht k (by omega);have h:=hB (4*t+k) (by omega);unfold part;rw [Nat.pow_succ];omega
theorem tY{B:Nat→Nat}(hB: ∀j,j<64→B j<256): ∀(i t:Nat),i≤64→fill B i t=if 4*t+4≤i then part B t 4 else if 4*t<i then part B t (i - 4*t)else 0
 | 0,t,_=>by
  rw [if_neg (by omega),if_neg (by omega)];rfl
 | i+1,t,hi=>by
  unfold fill;split
  ·rename_i ht;subst ht;have ih:=tY hB i (i/4) (by omega);have hi4:i=4*(i/4)+(i - 4*(i/4)):=by omega
   have hk:i - 4*(i/4)<4:=by omega
   generalize hq:i/4=q at*;obtain⟨k,cL⟩: ∃k,k=i - 4*q:=⟨_,rfl⟩;have U2:fill B i q=part B q k:=by
    rw [ih,if_neg (by omega)];split
    ·rw [cL]
    ·have:k=0:=by omega
     rw [this];rfl
   have hp:=Ia hB (show q<16 by omega) k (by omega);have hb:=hB i (by omega);have abv:(256:Nat)^k≤256^3:=Nat.pow_le_pow_right (by decide) (by omega);rw [U2,adQ (by omega),show part B q k*256=2^8*part B q k by omega,←Nat.two_pow_add_eq_or_of_lt (by omega)];have hpk:2^8*part B q k+B i=part B q (k+1):=by
    rw [part,show 4*q+k=i by omega];omega
   rw [hpk];by_cases h4:4*q+4≤i+1
   ·rw [if_pos h4,show k+1=4 by omega]
   ·rw [if_neg h4,if_pos (by omega),show i+1 - 4*q=k+1 by omega]
  ·rename_i ht;rw [tY hB i t (by omega)];by_cases h4:4*t+4≤i
   ·rw [if_pos h4,if_pos (by omega)]
   ·have h5: ¬4*t<i:=by omega
    rw [if_neg h4,if_neg h5,if_neg (by omega),if_neg (by omega)]
theorem Mv{B:Nat→Nat}(hB: ∀j,j<64→B j<256)(t:Nat):fill B 64 t=fy B 0 t:=by
 rw [tY hB 64 t (Nat.le_refl _)];unfold fy;by_cases ht:t<16
 ·rw [if_pos ht,if_pos (by omega)];simp only [part,word,Nat.add_zero,Nat.zero_mul,Nat.zero_add]
 ·rw [if_neg ht,if_neg (by omega),if_neg (by omega)]
def XP:List Nat:=[4794697086780616226,8158064640168781261,13096744586834688815,16840607885511220156,4131703408338449720,6480981068601479193,10538285296894168987,12329834152419229976,15566598209576043074,1334009975649890238,2608012711638119052,6128411473006802146,8268148722764581231,9286055187155687089,11230858885718282805,13951009754708518548,16472876342353939154,17275323862435702243,1135362057144423861,2597628984639134821,3308224258029322869,5365058923640841347,6679025012923562964,8573033837759648693,10970295158949994411,12119686244451234320,12683024718118986047,13788192230050041572,14330467153632333762,15395433587784984357,489312712824947311,1452737877330783856,2861767655752347644,3322285676063803686,5560940570517711597,5996557281743188959,7280758554555802590,8532644243296465576,9350256976987008742,10552545826968843579,11727347734174303076,12113106623233404929,14000437183269869457,14369950271660146224,15101387698204529176,15463397548674623760,17586052441742319658,1182934255886127544,1847814050463011016,2177327727835720531,2830643537854262169,3796741975233480872,4115178125766777443,5681478168544905931,6601373596472566643,7507060721942968483,8399075790359081724,8693463985226723168,9568029438360202098,10144078919501101548,10430055236837252648,11840083180663258601,13761210420658862357,14299343276471374635,14566680578165727644,15097957966210449927,16922976911328602910,17689382322260857208,500013540394364858,748580250866718886,1242879168328830382,1977374033974150939,2944078676154940804,3659926193048069267,4368137639120453308,4836135668995329356,5532061633213252278,6448918945643986474,6902733635092675308,7801388544844847127]
def XQ:List Nat:=[7640891576956012808,13503953896175478587,4354685564936845355,11912009170470909681,5840696475078001361,11170449401992604703,2270897969802886507,6620516959819538809]
def K64(j:Nat):Nat:=XP.getD j 0
def K0(j:Nat):Nat:=K64 j/2^32
def H0(j:Nat):Nat:=XQ.getD j 0/2^32
theorem U3(j:Nat)(hj:j<8):H0 j<2^32:=by
 have: ∀j,j<8→H0 j<2^32:=by decide+kernel
 exact this j hj
def bytesOf(C:Nat→Nat)(j:Nat):Nat:=C (j/4)/2^(24 - 8*(j%4))%256
theorem Mw(C:Nat→Nat)(j:Nat):bytesOf C j<256:=Nat.mod_lt _ (by decide)
theorem bO(w s:Nat)(hs:s≤32):ae .u8 (ak .shr .u32 (w:Int) (s:Int))=((w/2^s%256:Nat):Int):=by
 rw [fM .u32 w s hs,wrap_u8,Nat.shiftRight_eq_div_pow]
end Go.RX.Sh

namespace Go.RX.Fi
open Go.RX Go.Proofs Go.RX.Fe Go.RX.Fg
noncomputable def cx:Ctx:={T:=TT,FT:=FT,loops:=Fi.loops,cb:=Fi.cb}
set_option maxRecDepth 100000
def ED(ax:PT)(A0:Nat→Int):Prop:=
 ∀_ _ _:Nat,ax (.agg (ads (aj .u8 12 A0) (ads (aj .u8 3 (fun _=>0)) ([.int .u8 1]))).toArray) []
theorem Mx(ax:PT)(A0:Nat→Int)(h:ED ax A0):ar adE 51 [.agg (ads (aj .u8 12 A0) ([])).toArray] [] ax:=
 NU (C:=Fi.cx) [.agg [.cD .u8 12 (.aO 0)]] [] ⟨0,0,0,1,0,0,0⟩ ⟨[],[A0],[],[],[],[],[],[]⟩ Try.func51 (by kernel_rfl) h
def My(ax:PT)(x0 x1 x2:Int)(A0 A1 A2 A3 A4:Nat→Int)(v0 _ _:V1)(b0:Nat):Prop:=
 ∀_ _:Nat,aw (0≤x1) (
 aw (0≤x1) (
 fx x1 (
 ∀_:V1,eJ (16 - (ak .rem .i64 x1 16)) ((
 aw (0≤(ak .rem .i64 (16 - (ak .rem .i64 x1 16)) 16)) (
 aw ((x1+(ak .rem .i64 (16 - (ak .rem .i64 x1 16)) 16))≤140737488355328) (
 ∀(_:V1) (_:Nat) (_:V1) (_:Nat) (_:V1) (_:Nat) (_:V1) (_:Nat) (_:V1) (_:Nat) (_:V1) (_:Nat) (_:V1) (_:Nat) (_:V1) (_:Nat) (_:V1),aw (0≤x2) (
 aw (0≤(x1+(ak .rem .i64 (16 - (ak .rem .i64 x1 16)) 16))) (
 aw (0≤x2) (
 aw (((x1+(ak .rem .i64 (16 - (ak .rem .i64 x1 16)) 16))+x2)≤140737488355328) (
 ∀_:V1,eJ (16 - (ak .rem .i64 x2 16)) ((
 aw (0≤((x1+(ak .rem .i64 (16 - (ak .rem .i64 x1 16)) 16))+x2)) (
 aw (0≤(ak .rem .i64 (16 - (ak .rem .i64 x2 16)) 16)) (
 aw ((((x1+(ak .rem .i64 (16 - (ak .rem .i64 x1 16)) 16))+x2)+(ak .rem .i64 (16 - (ak .rem .i64 x2 16)) 16))≤140737488355328) (
 ∀(_:V1) (_:Nat) (_:V1) (_:Nat) (_:V1) (_:Nat) (_:V1) (_:Nat) (_:V1) (_:Nat) (_:V1) (_:Nat) (_:V1) (_:Nat) (_:V1) (_:Nat) (_:V1),Cl 11 [.pointer (some ⟨b0,0,none⟩),.agg (ads (aj .u8 16 (fun _=>0)) ([])).toArray] [aq b0 true (ads (aj .u8 256 A0) ([v0.v])),au true 73 4 v0.v (ag x0) (aK (ag x0) [aJ .u8 4 A1])] fun x hs l=> ∃A5:(Nat→Int),x= .agg (ads (aj .u8 16 A5) ([])).toArray∧hs=l∧
 aw (0≤(((x1+(ak .rem .i64 (16 - (ak .rem .i64 x1 16)) 16))+x2)+(ak .rem .i64 (16 - (ak .rem .i64 x2 16)) 16))) (
 aw (((((x1+(ak .rem .i64 (16 - (ak .rem .i64 x1 16)) 16))+x2)+(ak .rem .i64 (16 - (ak .rem .i64 x2 16)) 16))+16)≤140737488355328) (
 ∀FJ:V1,Cl 58 [.agg (ads (aj .u8 16 A5) ([])).toArray,FJ.v] [bo FJ ((((x1+(ak .rem .i64 (16 - (ak .rem .i64 x1 16)) 16))+x2)+(ak .rem .i64 (16 - (ak .rem .i64 x2 16)) 16))+16) (aA (aA (aA (aA A3 (ag x1) (ag (ak .rem .i64 (16 - (ak .rem .i64 x1 16)) 16)) (fun _=>0)) (ag (x1+(ak .rem .i64 (16 - (ak .rem .i64 x1 16)) 16))) (ag x2) A4) (ag ((x1+(ak .rem .i64 (16 - (ak .rem .i64 x1 16)) 16))+x2)) (ag (ak .rem .i64 (16 - (ak .rem .i64 x2 16)) 16)) (fun _=>0)) (ag (((x1+(ak .rem .i64 (16 - (ak .rem .i64 x1 16)) 16))+x2)+(ak .rem .i64 (16 - (ak .rem .i64 x2 16)) 16))) 16 (ao (ao (ao (ao (ao (ao (ao (ao (ao (ao (ao (ao (ao (ao (ao (ao (fun _=>0) 0 (ae .u8 (ak .shr .u64 (ak .shl .u64 (ae .u64 x1) 3) 56))) 1 (ae .u8 (ak .shr .u64 (ak .shl .u64 (ae .u64 x1) 3) 48))) 2 (ae .u8 (ak .shr .u64 (ak .shl .u64 (ae .u64 x1) 3) 40))) 3 (ae .u8 (ak .shr .u64 (ak .shl .u64 (ae .u64 x1) 3) 32))) 4 (ae .u8 (ak .shr .u64 (ak .shl .u64 (ae .u64 x1) 3) 24))) 5 (ae .u8 (ak .shr .u64 (ak .shl .u64 (ae .u64 x1) 3) 16))) 6 (ae .u8 (ak .shr .u64 (ak .shl .u64 (ae .u64 x1) 3) 8))) 7 (ae .u8 (ak .shr .u64 (ak .shl .u64 (ae .u64 x1) 3) 0))) 8 (ae .u8 (ak .shr .u64 (ak .shl .u64 (ae .u64 x2) 3) 56))) 9 (ae .u8 (ak .shr .u64 (ak .shl .u64 (ae .u64 x2) 3) 48))) 10 (ae .u8 (ak .shr .u64 (ak .shl .u64 (ae .u64 x2) 3) 40))) 11 (ae .u8 (ak .shr .u64 (ak .shl .u64 (ae .u64 x2) 3) 32))) 12 (ae .u8 (ak .shr .u64 (ak .shl .u64 (ae .u64 x2) 3) 24))) 13 (ae .u8 (ak .shr .u64 (ak .shl .u64 (ae .u64 x2) 3) 16))) 14 (ae .u8 (ak .shr .u64 (ak .shl .u64 (ae .u64 x2) 3) 8))) 15 (ae .u8 (ak .shr .u64 (ak .shl .u64 (ae .u64 x2) 3) 0))))] fun x hs _=> ∃A6:(Nat→Int),x= .agg (ads (aj .u8 16 A6) ([])).toArray∧hs=[]∧
 ∀CX:Nat,(Cl 51 [.agg (ads (aj .u8 12 A2) ([])).toArray] [] fun x hs _=> ∃A7:(Nat→Int),x= .agg (ads (aj .u8 16 A7) ([])).toArray∧hs=[]∧
 ∀zd:Nat,Cl 39 [.pointer (some ⟨b0,0,none⟩),.agg (ads (aj .u8 16 A7) ([])).toArray,.slice (some ⟨zd,0,none⟩) 1 1] [aq b0 true (ads (aj .u8 256 A0) ([v0.v])),au true 73 4 v0.v (ag x0) (aK (ag x0) [aJ .u8 4 A1]),aq zd true ([.slice (some ⟨CX,0,none⟩) 16 16]),aq CX true (ads (aj .u8 16 A6) ([]))] fun x hs l=> ∃(FR:V1) (A8:Nat→Int),x= .tuple #[FR.v,.int .i64 0]∧hs=l++[bn true FR 16 A8]∧
 ax (FR.v) [aq b0 true (ads (aj .u8 256 A0) ([v0.v])),au true 73 4 v0.v (ag x0) (aK (ag x0) [aJ .u8 4 A1]),bn true FR 16 A8])∧
 (∀zd:Nat,Cl 51 [.agg (ads (aj .u8 12 A2) ([])).toArray] [] fun x hs _=> ∃A7:(Nat→Int),x= .agg (ads (aj .u8 16 A7) ([])).toArray∧hs=[]∧
 Cl 39 [.pointer (some ⟨b0,0,none⟩),.agg (ads (aj .u8 16 A7) ([])).toArray,.slice (some ⟨zd,0,none⟩) 1 1] [aq b0 true (ads (aj .u8 256 A0) ([v0.v])),au true 73 4 v0.v (ag x0) (aK (ag x0) [aJ .u8 4 A1]),aq zd true ([.slice (some ⟨CX,0,none⟩) 16 16]),aq CX true (ads (aj .u8 16 A6) ([]))] fun x hs l=> ∃(FR:V1) (A8:Nat→Int),x= .tuple #[FR.v,.int .i64 0]∧hs=l++[bn true FR 16 A8]∧
 ax (FR.v) [aq b0 true (ads (aj .u8 256 A0) ([v0.v])),au true 73 4 v0.v (ag x0) (aK (ag x0) [aJ .u8 4 A1]),bn true FR 16 A8])))))))))))))))))))
theorem Su(ax:PT)(x0 x1 x2:Int)(A0 A1 A2 A3 A4:Nat→Int)(v0 v1 v2:V1)(b0:Nat)(h:My ax x0 x1 x2 A0 A1 A2 A3 A4 v0 v1 v2 b0):ar adE 52 [.pointer (some ⟨b0,0,none⟩),.agg (ads (aj .u8 12 A2) ([])).toArray,v1.v,v2.v] [aq b0 true (ads (aj .u8 256 A0) ([v0.v])),au true 73 4 v0.v (ag x0) (aK (ag x0) [aJ .u8 4 A1]),bi v1 x1 A3,bi v2 x2 A4] ax:=
 s5 (C:=Fi.cx) [.ptr 0 0,.agg [.cD .u8 12 (.aO 2)],.vv 1,.vv 2] [.row 0 true [.cD .u8 256 (.aO 0),.vv 0],.bu true 0 73 4 (.var 0) [⟨.int .u8,4,.aO 1⟩],.bu false 1 5 1 (.var 1) [⟨.int .u8,1,.aO 3⟩],.bu false 2 5 1 (.var 2) [⟨.int .u8,1,.aO 4⟩]] ⟨1,3,3,5,0,0,0⟩ ⟨[x0,x1,x2],[A0,A1,A2,A3,A4],[],[b0],[v0,v1,v2],[],[],[]⟩ 2 1 Try.func52 (by kernel_rfl) h
def wj(ax:PT)(x0 x1:Int)(A0 A1:Nat→Int)(_ _:V1):Prop:=
 aw (0≤x0) (
 aw (0≤x1) (
 aZ (¬(x0=x1)) (
 ax (.bool false) []) (
 ∃(jk:Ext→Prop) (lA:Ext→Nat),(∃x2 x3:Int,x2=0∧x3=0∧jk ⟨[],[],[x2,x3],[],[],[],[]⟩)∧
 ∀x2 x3:Int,jk ⟨[],[],[x2,x3],[],[],[],[]⟩→
 aZ (x2<x0) (
 aw (0≤x2) (
 aw (x2<x1) (
 eJ (x2+1) ((
 ∃gQ fO:Int,gQ=(x2+1)∧fO=(ak .bJ .u8 x3 (ak .aD .u8 (A0 (ag x2)) (A1 (ag x2))))∧jk ⟨[],[],[gQ,fO],[],[],[],[]⟩∧lA ⟨[],[],[gQ,fO],[],[],[],[]⟩<lA ⟨[],[],[x2,x3],[],[],[],[]⟩))))) (
 ax (.bool (x3==0)) []))))
theorem HH(ax:PT)(x0 x1:Int)(A0 A1:Nat→Int)(v0 v1:V1)(h:wj ax x0 x1 A0 A1 v0 v1):ar adE 44 [v0.v,v1.v] [bi v0 x0 A0,bi v1 x1 A1] ax:=
 NU (C:=Fi.cx) [.vv 0,.vv 1] [.bu false 0 5 1 (.var 0) [⟨.int .u8,1,.aO 0⟩],.bu false 1 5 1 (.var 1) [⟨.int .u8,1,.aO 1⟩]] ⟨0,2,2,2,0,0,0⟩ ⟨[x0,x1],[A0,A1],[],[],[v0,v1],[],[],[]⟩ Try.func44 (by kernel_rfl) h
def AE(ax:PT)(x0 x1:Int)(A0 A1 A2 A3:Nat→Int)(v0 v1 v2:V1):Prop:=
 ∀_:Nat,Cl 10 [v0.v] [bn false v0 16 A0] fun x hs l=> ∃(b1:Nat) (v3:V1) (A4 A5:Nat→Int),x= .tuple #[.pointer (some ⟨b1,0,none⟩),.int .i64 0]∧hs=l++[aq b1 true (ads (aj .u8 256 A4) ([v3.v])),au true 73 4 v3.v 44 (aK 44 [aJ .u8 4 A5])]∧
 Cl 51 [.agg (ads (aj .u8 12 A1) ([])).toArray] [] fun x hs _=> ∃A6:(Nat→Int),x= .agg (ads (aj .u8 16 A6) ([])).toArray∧hs=[]∧
 Cl 50 [.agg (ads (aj .u8 16 A6) ([])).toArray] [] fun x hs _=> ∃A7:(Nat→Int),x= .agg (ads (aj .u8 16 A7) ([])).toArray∧hs=[]∧
 ∀b2:Nat,Cl 39 [.pointer (some ⟨b1,0,none⟩),.agg (ads (aj .u8 16 A7) ([])).toArray,.slice (some ⟨b2,0,none⟩) 1 1] [aq b1 true (ads (aj .u8 256 A4) ([v3.v])),au true 73 4 v3.v 44 (aK 44 [aJ .u8 4 A5]),aq b2 true ([v2.v]),bi v2 x1 A3] fun x hs l=> ∃(v4:V1) (A8:Nat→Int),x= .tuple #[v4.v,.int .i64 0]∧hs=l++[bo v4 x1 A8]∧
 Cl 52 [.pointer (some ⟨b1,0,none⟩),.agg (ads (aj .u8 12 A1) ([])).toArray,v1.v,v4.v] [aq b1 true (ads (aj .u8 256 A4) ([v3.v])),au true 73 4 v3.v 44 (aK 44 [aJ .u8 4 A5]),bi v1 x0 A2,bo v4 x1 A8] fun x hs l=> ∃(v5:V1) (A9:Nat→Int),x=v5.v∧hs=l++[bn true v5 16 A9]∧
 aw (0≤x1) (
 fx (x1+16) (
 ∀v6:V1,ax (.tuple #[v6.v,.int .i64 0]) [bo v6 (x1+16) (aA A8 (ag x1) 16 A9),bn true v5 16 A9]))
theorem JZ(ax:PT)(x0 x1:Int)(A0 A1 A2 A3:Nat→Int)(v0 v1 v2:V1)(h:AE ax x0 x1 A0 A1 A2 A3 v0 v1 v2):ar adE 34 [v0.v,.agg (ads (aj .u8 12 A1) ([])).toArray,v1.v,v2.v] [bn false v0 16 A0,bi v1 x0 A2,bi v2 x1 A3] ax:=
 s5 (C:=Fi.cx) [.vv 0,.agg [.cD .u8 12 (.aO 1)],.vv 1,.vv 2] [.bu false 0 5 1 (.lit 16) [⟨.int .u8,1,.aO 0⟩],.bu false 1 5 1 (.var 0) [⟨.int .u8,1,.aO 2⟩],.bu false 2 5 1 (.var 1) [⟨.int .u8,1,.aO 3⟩]] ⟨0,3,2,4,0,0,0⟩ ⟨[x0,x1],[A0,A1,A2,A3],[],[],[v0,v1,v2],[],[],[]⟩ 0 2 Try.func34 (by kernel_rfl) h
def AF(ax:PT)(x0 x1:Int)(A0 A1 A2 A3:Nat→Int)(v0 v1 v2:V1):Prop:=
 ∀_:Nat,Cl 10 [v0.v] [bn false v0 32 A0] fun x hs l=> ∃(b1:Nat) (v3:V1) (A4 A5:Nat→Int),x= .tuple #[.pointer (some ⟨b1,0,none⟩),.int .i64 0]∧hs=l++[aq b1 true (ads (aj .u8 256 A4) ([v3.v])),au true 73 4 v3.v 60 (aK 60 [aJ .u8 4 A5])]∧
 Cl 51 [.agg (ads (aj .u8 12 A1) ([])).toArray] [] fun x hs _=> ∃A6:(Nat→Int),x= .agg (ads (aj .u8 16 A6) ([])).toArray∧hs=[]∧
 Cl 50 [.agg (ads (aj .u8 16 A6) ([])).toArray] [] fun x hs _=> ∃A7:(Nat→Int),x= .agg (ads (aj .u8 16 A7) ([])).toArray∧hs=[]∧
 ∀b2:Nat,Cl 39 [.pointer (some ⟨b1,0,none⟩),.agg (ads (aj .u8 16 A7) ([])).toArray,.slice (some ⟨b2,0,none⟩) 1 1] [aq b1 true (ads (aj .u8 256 A4) ([v3.v])),au true 73 4 v3.v 60 (aK 60 [aJ .u8 4 A5]),aq b2 true ([v2.v]),bi v2 x1 A3] fun x hs l=> ∃(v4:V1) (A8:Nat→Int),x= .tuple #[v4.v,.int .i64 0]∧hs=l++[bo v4 x1 A8]∧
 Cl 52 [.pointer (some ⟨b1,0,none⟩),.agg (ads (aj .u8 12 A1) ([])).toArray,v1.v,v4.v] [aq b1 true (ads (aj .u8 256 A4) ([v3.v])),au true 73 4 v3.v 60 (aK 60 [aJ .u8 4 A5]),bi v1 x0 A2,bo v4 x1 A8] fun x hs l=> ∃(v5:V1) (A9:Nat→Int),x=v5.v∧hs=l++[bn true v5 16 A9]∧
 aw (0≤x1) (
 fx (x1+16) (
 ∀v6:V1,ax (.tuple #[v6.v,.int .i64 0]) [bo v6 (x1+16) (aA A8 (ag x1) 16 A9),bn true v5 16 A9]))
theorem J0(ax:PT)(x0 x1:Int)(A0 A1 A2 A3:Nat→Int)(v0 v1 v2:V1)(h:AF ax x0 x1 A0 A1 A2 A3 v0 v1 v2):ar adE 34 [v0.v,.agg (ads (aj .u8 12 A1) ([])).toArray,v1.v,v2.v] [bn false v0 32 A0,bi v1 x0 A2,bi v2 x1 A3] ax:=
 s5 (C:=Fi.cx) [.vv 0,.agg [.cD .u8 12 (.aO 1)],.vv 1,.vv 2] [.bu false 0 5 1 (.lit 32) [⟨.int .u8,1,.aO 0⟩],.bu false 1 5 1 (.var 0) [⟨.int .u8,1,.aO 2⟩],.bu false 2 5 1 (.var 1) [⟨.int .u8,1,.aO 3⟩]] ⟨0,3,2,4,0,0,0⟩ ⟨[x0,x1],[A0,A1,A2,A3],[],[],[v0,v1,v2],[],[],[]⟩ 0 2 Try.func34 (by kernel_rfl) h
def AG(ax:PT)(x0 x1:Int)(A0 A1 A2 A3:Nat→Int)(v0 v1 v2:V1):Prop:=
 ∀_:Nat,Cl 10 [v0.v] [bn false v0 16 A0] fun x hs l=> ∃(b1:Nat) (v3:V1) (A4 A5:Nat→Int),x= .tuple #[.pointer (some ⟨b1,0,none⟩),.int .i64 0]∧hs=l++[aq b1 true (ads (aj .u8 256 A4) ([v3.v])),au true 73 4 v3.v 44 (aK 44 [aJ .u8 4 A5])]∧
 aw (0≤x1) (
 eJ (x1 - 16) ((
 aw (((x1 - 16)<0)∨(0≤(x1 - 16))) (
 aw (((x1 - 16)<0)∨((x1 - 16)≤x1)) (
 aw (((x1 - 16)<0)∨(0≤(x1 - 16))) (
 aw (((x1 - 16)<0)∨((x1 - 16)≤x1)) (
 aZ (¬((x1 - 16)<0)) (
 Cl 52 [.pointer (some ⟨b1,0,none⟩),.agg (ads (aj .u8 12 A1) ([])).toArray,v1.v,(aC 1 v2.v 0 (ag (x1 - 16)) none)] [aq b1 true (ads (aj .u8 256 A4) ([v3.v])),au true 73 4 v3.v 44 (aK 44 [aJ .u8 4 A5]),bi v1 x0 A2,bi v2 x1 A3] fun x hs l=> ∃(v4:V1) (A6:Nat→Int),x=v4.v∧hs=l++[bn true v4 16 A6]∧
 Cl 44 [v4.v,(if(!(decide ((x1 - 16)<0)))then(aC 1 v2.v (ag (x1 - 16)) (ag x1) none)else undef)] [bn true v4 16 A6,bi v2 x1 A3] fun x hs l=> ∃q0:Bool,x= .bool q0∧hs=l∧
 aZ (¬(q0=true)) (
 ax (.tuple #[.slice none 0 0,.int .i64 140]) [bn true v4 16 A6]) (
 aw (0≤(x1 - 16)) (
 aw ((x1 - 16)≤x1) (
 (Cl 51 [.agg (ads (aj .u8 12 A1) ([])).toArray] [] fun x hs _=> ∃A7:(Nat→Int),x= .agg (ads (aj .u8 16 A7) ([])).toArray∧hs=[]∧
 (Cl 50 [.agg (ads (aj .u8 16 A7) ([])).toArray] [] fun x hs _=> ∃A8:(Nat→Int),x= .agg (ads (aj .u8 16 A8) ([])).toArray∧hs=[]∧
 ∀b2:Nat,Cl 39 [.pointer (some ⟨b1,0,none⟩),.agg (ads (aj .u8 16 A8) ([])).toArray,.slice (some ⟨b2,0,none⟩) 1 1] [aq b1 true (ads (aj .u8 256 A4) ([v3.v])),au true 73 4 v3.v 44 (aK 44 [aJ .u8 4 A5]),aq b2 true ([(aC 1 v2.v 0 (ag (x1 - 16)) none)]),bi v2 x1 A3] fun x hs l=> ∃(v5:V1) (A9:Nat→Int),x= .tuple #[v5.v,.int .i64 0]∧hs=l++[bo v5 (x1 - 16) A9]∧
 ax (.tuple #[v5.v,.int .i64 0]) [bo v5 (x1 - 16) A9])∧
 (∀b2:Nat,Cl 50 [.agg (ads (aj .u8 16 A7) ([])).toArray] [] fun x hs _=> ∃A8:(Nat→Int),x= .agg (ads (aj .u8 16 A8) ([])).toArray∧hs=[]∧
 Cl 39 [.pointer (some ⟨b1,0,none⟩),.agg (ads (aj .u8 16 A8) ([])).toArray,.slice (some ⟨b2,0,none⟩) 1 1] [aq b1 true (ads (aj .u8 256 A4) ([v3.v])),au true 73 4 v3.v 44 (aK 44 [aJ .u8 4 A5]),aq b2 true ([(aC 1 v2.v 0 (ag (x1 - 16)) none)]),bi v2 x1 A3] fun x hs l=> ∃(v5:V1) (A9:Nat→Int),x= .tuple #[v5.v,.int .i64 0]∧hs=l++[bo v5 (x1 - 16) A9]∧
 ax (.tuple #[v5.v,.int .i64 0]) [bo v5 (x1 - 16) A9]))∧
 (∀b2:Nat,Cl 51 [.agg (ads (aj .u8 12 A1) ([])).toArray] [] fun x hs _=> ∃A7:(Nat→Int),x= .agg (ads (aj .u8 16 A7) ([])).toArray∧hs=[]∧
 Cl 50 [.agg (ads (aj .u8 16 A7) ([])).toArray] [] fun x hs _=> ∃A8:(Nat→Int),x= .agg (ads (aj .u8 16 A8) ([])).toArray∧hs=[]∧
 Cl 39 [.pointer (some ⟨b1,0,none⟩),.agg (ads (aj .u8 16 A8) ([])).toArray,.slice (some ⟨b2,0,none⟩) 1 1] [aq b1 true (ads (aj .u8 256 A4) ([v3.v])),au true 73 4 v3.v 44 (aK 44 [aJ .u8 4 A5]),aq b2 true ([(aC 1 v2.v 0 (ag (x1 - 16)) none)]),bi v2 x1 A3] fun x hs l=> ∃(v5:V1) (A9:Nat→Int),x= .tuple #[v5.v,.int .i64 0]∧hs=l++[bo v5 (x1 - 16) A9]∧
 ax (.tuple #[v5.v,.int .i64 0]) [bo v5 (x1 - 16) A9]))))) (
 ax (.tuple #[.slice none 0 0,.int .i64 140]) [au true 73 4 v3.v 44 (aK 44 [aJ .u8 4 A5])]))))))))
theorem J1(ax:PT)(x0 x1:Int)(A0 A1 A2 A3:Nat→Int)(v0 v1 v2:V1)(h:AG ax x0 x1 A0 A1 A2 A3 v0 v1 v2):ar adE 37 [v0.v,.agg (ads (aj .u8 12 A1) ([])).toArray,v1.v,v2.v] [bn false v0 16 A0,bi v1 x0 A2,bi v2 x1 A3] ax:=
 s5 (C:=Fi.cx) [.vv 0,.agg [.cD .u8 12 (.aO 1)],.vv 1,.vv 2] [.bu false 0 5 1 (.lit 16) [⟨.int .u8,1,.aO 0⟩],.bu false 1 5 1 (.var 0) [⟨.int .u8,1,.aO 2⟩],.bu false 2 5 1 (.var 1) [⟨.int .u8,1,.aO 3⟩]] ⟨0,3,2,4,0,0,0⟩ ⟨[x0,x1],[A0,A1,A2,A3],[],[],[v0,v1,v2],[],[],[]⟩ 0 1 Try.func37 (by kernel_rfl) h
def AH(ax:PT)(x0 x1:Int)(A0 A1 A2 A3:Nat→Int)(v0 v1 v2:V1):Prop:=
 ∀_:Nat,Cl 10 [v0.v] [bn false v0 32 A0] fun x hs l=> ∃(b1:Nat) (v3:V1) (A4 A5:Nat→Int),x= .tuple #[.pointer (some ⟨b1,0,none⟩),.int .i64 0]∧hs=l++[aq b1 true (ads (aj .u8 256 A4) ([v3.v])),au true 73 4 v3.v 60 (aK 60 [aJ .u8 4 A5])]∧
 aw (0≤x1) (
 eJ (x1 - 16) ((
 aw (((x1 - 16)<0)∨(0≤(x1 - 16))) (
 aw (((x1 - 16)<0)∨((x1 - 16)≤x1)) (
 aw (((x1 - 16)<0)∨(0≤(x1 - 16))) (
 aw (((x1 - 16)<0)∨((x1 - 16)≤x1)) (
 aZ (¬((x1 - 16)<0)) (
 Cl 52 [.pointer (some ⟨b1,0,none⟩),.agg (ads (aj .u8 12 A1) ([])).toArray,v1.v,(aC 1 v2.v 0 (ag (x1 - 16)) none)] [aq b1 true (ads (aj .u8 256 A4) ([v3.v])),au true 73 4 v3.v 60 (aK 60 [aJ .u8 4 A5]),bi v1 x0 A2,bi v2 x1 A3] fun x hs l=> ∃(v4:V1) (A6:Nat→Int),x=v4.v∧hs=l++[bn true v4 16 A6]∧
 Cl 44 [v4.v,(if(!(decide ((x1 - 16)<0)))then(aC 1 v2.v (ag (x1 - 16)) (ag x1) none)else undef)] [bn true v4 16 A6,bi v2 x1 A3] fun x hs l=> ∃q0:Bool,x= .bool q0∧hs=l∧
 aZ (¬(q0=true)) (
 ax (.tuple #[.slice none 0 0,.int .i64 140]) [bn true v4 16 A6]) (
 aw (0≤(x1 - 16)) (
 aw ((x1 - 16)≤x1) (
 (Cl 51 [.agg (ads (aj .u8 12 A1) ([])).toArray] [] fun x hs _=> ∃A7:(Nat→Int),x= .agg (ads (aj .u8 16 A7) ([])).toArray∧hs=[]∧
 (Cl 50 [.agg (ads (aj .u8 16 A7) ([])).toArray] [] fun x hs _=> ∃A8:(Nat→Int),x= .agg (ads (aj .u8 16 A8) ([])).toArray∧hs=[]∧
 ∀b2:Nat,Cl 39 [.pointer (some ⟨b1,0,none⟩),.agg (ads (aj .u8 16 A8) ([])).toArray,.slice (some ⟨b2,0,none⟩) 1 1] [aq b1 true (ads (aj .u8 256 A4) ([v3.v])),au true 73 4 v3.v 60 (aK 60 [aJ .u8 4 A5]),aq b2 true ([(aC 1 v2.v 0 (ag (x1 - 16)) none)]),bi v2 x1 A3] fun x hs l=> ∃(v5:V1) (A9:Nat→Int),x= .tuple #[v5.v,.int .i64 0]∧hs=l++[bo v5 (x1 - 16) A9]∧
 ax (.tuple #[v5.v,.int .i64 0]) [bo v5 (x1 - 16) A9])∧
 (∀b2:Nat,Cl 50 [.agg (ads (aj .u8 16 A7) ([])).toArray] [] fun x hs _=> ∃A8:(Nat→Int),x= .agg (ads (aj .u8 16 A8) ([])).toArray∧hs=[]∧
 Cl 39 [.pointer (some ⟨b1,0,none⟩),.agg (ads (aj .u8 16 A8) ([])).toArray,.slice (some ⟨b2,0,none⟩) 1 1] [aq b1 true (ads (aj .u8 256 A4) ([v3.v])),au true 73 4 v3.v 60 (aK 60 [aJ .u8 4 A5]),aq b2 true ([(aC 1 v2.v 0 (ag (x1 - 16)) none)]),bi v2 x1 A3] fun x hs l=> ∃(v5:V1) (A9:Nat→Int),x= .tuple #[v5.v,.int .i64 0]∧hs=l++[bo v5 (x1 - 16) A9]∧
 ax (.tuple #[v5.v,.int .i64 0]) [bo v5 (x1 - 16) A9]))∧
 (∀b2:Nat,Cl 51 [.agg (ads (aj .u8 12 A1) ([])).toArray] [] fun x hs _=> ∃A7:(Nat→Int),x= .agg (ads (aj .u8 16 A7) ([])).toArray∧hs=[]∧
 Cl 50 [.agg (ads (aj .u8 16 A7) ([])).toArray] [] fun x hs _=> ∃A8:(Nat→Int),x= .agg (ads (aj .u8 16 A8) ([])).toArray∧hs=[]∧
 Cl 39 [.pointer (some ⟨b1,0,none⟩),.agg (ads (aj .u8 16 A8) ([])).toArray,.slice (some ⟨b2,0,none⟩) 1 1] [aq b1 true (ads (aj .u8 256 A4) ([v3.v])),au true 73 4 v3.v 60 (aK 60 [aJ .u8 4 A5]),aq b2 true ([(aC 1 v2.v 0 (ag (x1 - 16)) none)]),bi v2 x1 A3] fun x hs l=> ∃(v5:V1) (A9:Nat→Int),x= .tuple #[v5.v,.int .i64 0]∧hs=l++[bo v5 (x1 - 16) A9]∧
 ax (.tuple #[v5.v,.int .i64 0]) [bo v5 (x1 - 16) A9]))))) (
 ax (.tuple #[.slice none 0 0,.int .i64 140]) [au true 73 4 v3.v 60 (aK 60 [aJ .u8 4 A5])]))))))))
theorem J2(ax:PT)(x0 x1:Int)(A0 A1 A2 A3:Nat→Int)(v0 v1 v2:V1)(h:AH ax x0 x1 A0 A1 A2 A3 v0 v1 v2):ar adE 37 [v0.v,.agg (ads (aj .u8 12 A1) ([])).toArray,v1.v,v2.v] [bn false v0 32 A0,bi v1 x0 A2,bi v2 x1 A3] ax:=
 s5 (C:=Fi.cx) [.vv 0,.agg [.cD .u8 12 (.aO 1)],.vv 1,.vv 2] [.bu false 0 5 1 (.lit 32) [⟨.int .u8,1,.aO 0⟩],.bu false 1 5 1 (.var 0) [⟨.int .u8,1,.aO 2⟩],.bu false 2 5 1 (.var 1) [⟨.int .u8,1,.aO 3⟩]] ⟨0,3,2,4,0,0,0⟩ ⟨[x0,x1],[A0,A1,A2,A3],[],[],[v0,v1,v2],[],[],[]⟩ 0 1 Try.func37 (by kernel_rfl) h
end Go.RX.Fi
