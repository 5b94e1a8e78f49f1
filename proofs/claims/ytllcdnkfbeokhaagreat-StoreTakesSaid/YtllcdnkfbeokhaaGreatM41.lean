/- SHA-256's block. -/
import Derived.Test.YtllcdnkfbeokhaaGreatM40
open Go.IntKind renaming wrap → ae
open Go.Proofs.Tryz renaming prog → aqQ
open Int renaming toNat_natCast → aqD
open List renaming getElem?_eq_some_iff → aqo, mem_range → aqE
open Nat renaming lt_of_lt_of_le → aqz
namespace Go.RX.Sh
open Go.RX
def gf(x n:Nat):Nat:=x/2^n+x*2^(32 - n)%2^32
def s0(x:Nat):Nat:=gf x 7^^^gf x 18^^^x/2^3
def s1(x:Nat):Nat:=gf x 17^^^gf x 19^^^x/2^10
def S0(x:Nat):Nat:=gf x 2^^^gf x 13^^^gf x 22
def S1(x:Nat):Nat:=gf x 6^^^gf x 11^^^gf x 25
def ch(x y z:Nat):Nat:=(x &&& y)^^^((2^32 - 1 - x) &&& z)
def TA(x y z:Nat):Nat:=(x &&& y)^^^(x &&& z)^^^(y &&& z)
def word(B:Nat→Nat)(t:Nat):Nat:=((B (4*t)*256+B (4*t+1))*256+B (4*t+2))*256+B (4*t+3)
def gj(B:Nat→Nat):Nat→Nat→Nat
 | 0=>fun t=>if t<16 then word B t else 0
 | n+1=>fun t=>if t=n+16 then(s1 (gj B n (n+14))+gj B n (n+9)+s0 (gj B n (n+1))+gj B n n)%2^32 else gj B n t
def temp(v:Nat→Nat)(k w:Nat):Nat:=(v 7+S1 (v 4)+ch (v 4) (v 5) (v 6)+k+w)%2^32
def step(v:Nat→Nat)(k w j:Nat):Nat:=
 if j=0 then(temp v k w+(S0 (v 0)+TA (v 0) (v 1) (v 2))%2^32)%2^32
 else if j=4 then(v 3+temp v k w)%2^32
 else if j<8 then v (j - 1)else 0
theorem Mh(v:Nat→Nat)(k w:Nat):step v k w 0=(temp v k w+(S0 (v 0)+TA (v 0) (v 1) (v 2))%2^32)%2^32:=by
 unfold step;rw [if_pos rfl]
theorem Mi(v:Nat→Nat)(k w:Nat):step v k w 4=(v 3+temp v k w)%2^32:=by
 unfold step;rw [if_neg (by decide),if_pos rfl]
theorem lB(v:Nat→Nat)(k w:Nat){j:Nat}(h0:j≠0)(h4:j≠4)(h8:j<8):step v k w j=v (j - 1):=by
 unfold step;rw [if_neg h0,if_neg h4,if_pos h8]
def SX(K W H:Nat→Nat):Nat→Nat→Nat
 | 0=>H
 | n+1=>step (SX K W H n) (K n) (W n)
def comp(K H B:Nat→Nat)(j:Nat):Nat:=(H j+SX K (gj B 48) H 64 j)%2^32
theorem fK{a b n:Nat}(ha:a<2^n)(hb:b<2^n):a^^^b<2^n:=Nat.xor_lt_two_pow ha hb
theorem fL{a b n:Nat}(ha:a<2^n):a &&& b<2^n:=Nat.lt_of_le_of_lt Nat.and_le_left ha
theorem cD{x n:Nat}(hx:x<2^32)(hn:n≤32):gf x n<2^32:=by
 unfold gf;have h1:x*2^(32 - n)%2^32=x%2^n*2^(32 - n):=by
  have:(2:Nat)^32=2^n*2^(32 - n):=by rw [←Nat.pow_add];congr 1;omega
  rw [this,Nat.mul_mod_mul_right]
 rw [h1];have h2:x/2^n<2^(32 - n):=by
  apply Nat.div_lt_of_lt_mul;rw [←Nat.pow_add]
  rwa [show n+(32 - n)=32 by omega]
 have h3:x%2^n<2^n:=Nat.mod_lt _ (Nat.two_pow_pos n);have h4:(x%2^n+1)*2^(32 - n)≤2^n*2^(32 - n):=Nat.mul_le_mul_right _ h3;rw [←Nat.pow_add,show n+(32 - n)=32 by omega,Nat.add_mul]at h4;omega
theorem SY{x n:Nat}(hx:x<2^32)(hn:n≤32):(x >>> n)|||(x*2^(32 - n)%2^32)=gf x n:=by
 unfold gf;have h1:x*2^(32 - n)%2^32=2^(32 - n)*(x%2^n):=by
  have:(2:Nat)^32=2^n*2^(32 - n):=by rw [←Nat.pow_add];congr 1;omega
  rw [this,Nat.mul_mod_mul_right,Nat.mul_comm]
 have h2:x/2^n<2^(32 - n):=by
  apply Nat.div_lt_of_lt_mul;rw [←Nat.pow_add]
  rwa [show n+(32 - n)=32 by omega]
 rw [h1,Nat.shiftRight_eq_div_pow,Nat.or_comm,←Nat.two_pow_add_eq_or_of_lt h2,Nat.add_comm]
theorem wrap_u32(n:Nat):ae .u32 (n:Int)=((n%2^32:Nat):Int):=by
 simp [ae,IntKind.signed,IntKind.bits]
theorem wrap_u64(n:Nat):ae .u64 (n:Int)=((n%2^64:Nat):Int):=by
 simp [ae,IntKind.signed,IntKind.bits]
theorem wrap_u8(n:Nat):ae .u8 (n:Int)=((n%2^8:Nat):Int):=by
 simp [ae,IntKind.signed,IntKind.bits]
theorem eU(w n:Nat):(BitVec.ofInt w (n:Int)).toNat=n%2^w:=by
 simp
theorem wZ{a b:Nat}(ha:a<2^32)(hb:b<2^32):ar .cy .u32 (a:Int) (b:Int)=((a^^^b:Nat):Int):=by
 show ae .u32 ((BitVec.ofInt 32 (a:Int)^^^BitVec.ofInt 32 (b:Int)).toNat:Int)=_;rw [wrap_u32,BitVec.toNat_xor,eU,eU,Nat.mod_eq_of_lt ha,Nat.mod_eq_of_lt hb,Nat.mod_eq_of_lt (fK ha hb)]
theorem EZ{a b:Nat}(ha:a<2^32)(hb:b<2^32):ar .fJ .u32 (a:Int) (b:Int)=((a &&& b:Nat):Int):=by
 show ae .u32 ((BitVec.ofInt 32 (a:Int) &&& BitVec.ofInt 32 (b:Int)).toNat:Int)=_;rw [wrap_u32,BitVec.toNat_and,eU,eU,Nat.mod_eq_of_lt ha,Nat.mod_eq_of_lt hb,Nat.mod_eq_of_lt (fL ha)]
theorem abg{a b:Nat}(ha:a<2^32)(hb:b<2^32):ar .cz .u32 (a:Int) (b:Int)=((a|||b:Nat):Int):=by
 show ae .u32 ((BitVec.ofInt 32 (a:Int)|||BitVec.ofInt 32 (b:Int)).toNat:Int)=_;rw [wrap_u32,BitVec.toNat_or,eU,eU,Nat.mod_eq_of_lt ha,Nat.mod_eq_of_lt hb,Nat.mod_eq_of_lt (Nat.or_lt_two_pow ha hb)]
theorem YG{a b:Nat}(ha:a<2^64)(hb:b<2^64):ar .cy .u64 (a:Int) (b:Int)=((a^^^b:Nat):Int):=by
 show ae .u64 ((BitVec.ofInt 64 (a:Int)^^^BitVec.ofInt 64 (b:Int)).toNat:Int)=_;rw [wrap_u64,BitVec.toNat_xor,eU,eU,Nat.mod_eq_of_lt ha,Nat.mod_eq_of_lt hb,Nat.mod_eq_of_lt (fK ha hb)]
theorem YH{a b:Nat}(ha:a<2^64)(hb:b<2^64):ar .fJ .u64 (a:Int) (b:Int)=((a &&& b:Nat):Int):=by
 show ae .u64 ((BitVec.ofInt 64 (a:Int) &&& BitVec.ofInt 64 (b:Int)).toNat:Int)=_;rw [wrap_u64,BitVec.toNat_and,eU,eU,Nat.mod_eq_of_lt ha,Nat.mod_eq_of_lt hb,Nat.mod_eq_of_lt (fL ha)]
theorem rC(k:IntKind)(a n:Nat)(hn:n≤k.bits):ar .shr k (a:Int) (n:Int)=((a >>> n:Nat):Int):=by
 show Int.fdiv (a:Int) (2^(min (n:Int).toNat k.bits))=_;rw [aqD,Nat.min_eq_left hn,Nat.shiftRight_eq_div_pow,Int.fdiv_eq_ediv_of_nonneg _ (by exact Int.le_of_lt (Int.pow_pos (by decide)))];rw [Int.natCast_ediv,Int.natCast_pow];rfl
theorem Un(a n:Nat)(hn:n≤32):ar .shl .u32 (a:Int) (n:Int)=((a*2^n%2^32:Nat):Int):=by
 show ae .u32 ((a:Int)*2^(min (n:Int).toNat 32))=_;rw [aqD,Nat.min_eq_left hn];have:(a:Int)*2^n=((a*2^n:Nat):Int):=by rw [Int.natCast_mul,Int.natCast_pow];rfl
 rw [this,wrap_u32]
theorem E0{x n:Nat}(hx:x<2^32)(hn:n≤32):ar .cz .u32 (ar .shr .u32 (x:Int) (n:Int)) (ar .shl .u32 (x:Int) ((32 - n:Nat):Int))=((gf x n:Nat):Int):=by
 rw [rC .u32 x n hn,Un x (32 - n) (by omega),abg (Nat.lt_of_le_of_lt (by rw [Nat.shiftRight_eq_div_pow];exact Nat.div_le_self _ _) hx) (Nat.mod_lt _ (by decide)),SY hx hn]
theorem ra{x n:Nat}(hx:x<2^32):x/2^n<2^32:=Nat.lt_of_le_of_lt (Nat.div_le_self _ _) hx
theorem abh{x:Nat}(hx:x<2^32):s0 x<2^32:=fK (fK (cD hx (by decide)) (cD hx (by decide))) (ra hx)
theorem abi{x:Nat}(hx:x<2^32):s1 x<2^32:=fK (fK (cD hx (by decide)) (cD hx (by decide))) (ra hx)
theorem YL{x:Nat}(hx:x<2^32):S0 x<2^32:=fK (fK (cD hx (by decide)) (cD hx (by decide))) (cD hx (by decide))
theorem YJ{x:Nat}(hx:x<2^32):S1 x<2^32:=fK (fK (cD hx (by decide)) (cD hx (by decide))) (cD hx (by decide))
theorem YK{x y z:Nat}(hx:x<2^32):ch x y z<2^32:=fK (fL hx) (fL (by omega))
theorem UH{x y z:Nat}(hx:x<2^32)(hy:y<2^32):TA x y z<2^32:=fK (fK (fL hx) (fL hx)) (fL hy)
theorem pS{x a b c:Nat}(hx:x<2^32)(ha:a≤32)(hb:b≤32)(hc:c≤32):
  ar .cy .u32 (ar .cy .u32 (ar .cz .u32 (ar .shr .u32 (x:Int) (a:Int)) (ar .shl .u32 (x:Int) ((32 - a:Nat):Int))) (ar .cz .u32 (ar .shr .u32 (x:Int) (b:Int)) (ar .shl .u32 (x:Int) ((32 - b:Nat):Int))))
   (ar .cz .u32 (ar .shr .u32 (x:Int) (c:Int)) (ar .shl .u32 (x:Int) ((32 - c:Nat):Int)))=((gf x a^^^gf x b^^^gf x c:Nat):Int):=by
 rw [E0 hx ha,E0 hx hb,E0 hx hc,wZ (cD hx ha) (cD hx hb),wZ (fK (cD hx ha) (cD hx hb)) (cD hx hc)]
theorem ps{x a b c:Nat}(hx:x<2^32)(ha:a≤32)(hb:b≤32)(hc:c≤32):
  ar .cy .u32 (ar .cy .u32 (ar .cz .u32 (ar .shr .u32 (x:Int) (a:Int)) (ar .shl .u32 (x:Int) ((32 - a:Nat):Int))) (ar .cz .u32 (ar .shr .u32 (x:Int) (b:Int)) (ar .shl .u32 (x:Int) ((32 - b:Nat):Int))))
   (ar .shr .u32 (x:Int) (c:Int))=((gf x a^^^gf x b^^^x/2^c:Nat):Int):=by
 rw [E0 hx ha,E0 hx hb,rC .u32 x c hc,wZ (cD hx ha) (cD hx hb),Nat.shiftRight_eq_div_pow,wZ (fK (cD hx ha) (cD hx hb)) (ra hx)]
theorem ahx{x:Nat}(hx:x<2^32):ar .cy .u32 (ar .cy .u32 (ar .cz .u32 (ar .shr .u32 (x:Int) 7) (ar .shl .u32 (x:Int) 25)) (ar .cz .u32 (ar .shr .u32 (x:Int) 18) (ar .shl .u32 (x:Int) 14))) (ar .shr .u32 (x:Int) 3)=((s0 x:Nat):Int):=
 ps (a:=7) (b:=18) (c:=3) hx (by decide) (by decide) (by decide)
theorem ahy{x:Nat}(hx:x<2^32):ar .cy .u32 (ar .cy .u32 (ar .cz .u32 (ar .shr .u32 (x:Int) 17) (ar .shl .u32 (x:Int) 15)) (ar .cz .u32 (ar .shr .u32 (x:Int) 19) (ar .shl .u32 (x:Int) 13))) (ar .shr .u32 (x:Int) 10)=((s1 x:Nat):Int):=
 ps (a:=17) (b:=19) (c:=10) hx (by decide) (by decide) (by decide)
theorem ahz{x:Nat}(hx:x<2^32):ar .cy .u32 (ar .cy .u32 (ar .cz .u32 (ar .shr .u32 (x:Int) 2) (ar .shl .u32 (x:Int) 30)) (ar .cz .u32 (ar .shr .u32 (x:Int) 13) (ar .shl .u32 (x:Int) 19))) (ar .cz .u32 (ar .shr .u32 (x:Int) 22) (ar .shl .u32 (x:Int) 10))=((S0 x:Nat):Int):=
 pS (a:=2) (b:=13) (c:=22) hx (by decide) (by decide) (by decide)
theorem ahA{x:Nat}(hx:x<2^32):ar .cy .u32 (ar .cy .u32 (ar .cz .u32 (ar .shr .u32 (x:Int) 6) (ar .shl .u32 (x:Int) 26)) (ar .cz .u32 (ar .shr .u32 (x:Int) 11) (ar .shl .u32 (x:Int) 21))) (ar .cz .u32 (ar .shr .u32 (x:Int) 25) (ar .shl .u32 (x:Int) 7))=((S1 x:Nat):Int):=
 pS (a:=6) (b:=11) (c:=25) hx (by decide) (by decide) (by decide)
theorem abj{x:Nat}(hx:x<2^32):(4294967295:Nat)^^^x=2^32 - 1 - x:=by
 have h:=Nat.xor_comm 4294967295 x;apply Nat.eq_of_testBit_eq;intro i;rw [Nat.testBit_xor,show(4294967295:Nat)=2^32 - 1 from rfl,Nat.testBit_two_pow_sub_one,show 2^32 - 1 - x=2^32 - (x+1) by omega,Nat.testBit_two_pow_sub_succ hx];by_cases hi:i<32
 ·simp [hi]
 ·have:x.testBit i=false:=Nat.testBit_lt_two_pow (aqz hx (Nat.pow_le_pow_right (by decide) (by omega)));simp [hi,this]
theorem ahB{x y z:Nat}(hx:x<2^32)(hy:y<2^32)(hz:z<2^32):ar .cy .u32 (ar .fJ .u32 (x:Int) (y:Int)) (ar .fJ .u32 (ar .cy .u32 4294967295 (x:Int)) (z:Int))=((ch x y z:Nat):Int):=by
 have h1:ar .cy .u32 4294967295 (x:Int)=((2^32 - 1 - x:Nat):Int):=by
  rw [←abj hx];exact wZ (a:=4294967295) (by decide) hx
 rw [h1,EZ hx hy,EZ (by omega) hz,wZ (fL hx) (fL (by omega))];rfl
theorem abk{x y z:Nat}(hx:x<2^32)(hy:y<2^32)(hz:z<2^32):ar .cy .u32 (ar .cy .u32 (ar .fJ .u32 (x:Int) (y:Int)) (ar .fJ .u32 (x:Int) (z:Int))) (ar .fJ .u32 (y:Int) (z:Int))=((TA x y z:Nat):Int):=by
 rw [EZ hx hy,EZ hx hz,EZ hy hz,wZ (fL hx) (fL hx),wZ (fK (fL hx) (fL hx)) (fL hy)];rfl
theorem qP(a b:Nat):ae .u32 ((a:Int)+(b:Int))=(((a+b)%2^32:Nat):Int):=by rw [←Int.natCast_add,wrap_u32]
theorem Hp{B:Nat→Nat}(hB: ∀j,j<64→B j<256): ∀(n t:Nat),gj B n t<2^32
 | 0,t=>by
  unfold gj;split
  ·rename_i h;have h0:=hB (4*t) (by omega);have h1:=hB (4*t+1) (by omega);have h2:=hB (4*t+2) (by omega);have h3:=hB (4*t+3) (by omega);unfold word;omega
  ·decide
 | n+1,t=>by
  unfold gj;split
  ·exact Nat.mod_lt _ (by decide)
  ·exact Hp hB n t
theorem SZ{v:Nat→Nat}(hv: ∀j,j<8→v j<2^32)(k w:Nat)(j:Nat)(hj:j<8):step v k w j<2^32:=by
 have hp:0<2^32:=Nat.two_pow_pos 32;unfold step;split
 ·exact Nat.mod_lt _ hp
 ·split
  ·exact Nat.mod_lt _ hp
  ·exact hv _ (by omega)
theorem Hq{K W H:Nat→Nat}(hH: ∀j,j<8→H j<2^32): ∀n j,j<8→SX K W H n j<2^32
 | 0=>hH
 | n+1=>SZ (Hq hH n) _ _
theorem S3{K H B:Nat→Nat}(j:Nat):comp K H B j<2^32:=Nat.mod_lt _ (by decide)
def fill(B:Nat→Nat):Nat→Nat→Nat
 | 0=>fun _=>0
 | i+1=>fun t=>if t=i/4 then(fill B i (i/4)*256%2^32)|||B i else fill B i t
def part(B:Nat→Nat)(t:Nat):Nat→Nat
 | 0=>0
 | k+1=>part B t k*256+B (4*t+k)
theorem IU{B:Nat→Nat}{t:Nat}(hB: ∀j,j<64→B j<256)(ht:t<16): ∀k,k≤4→part B t k<256^k
 | 0,_=>by simp [part]
 | k+1,hk=>by
  have:=IU hB ht k (by omega);have h:=hB (4*t+k) (by omega);unfold part;rw [Nat.pow_succ];omega
theorem vO{B:Nat→Nat}(hB: ∀j,j<64→B j<256): ∀(i t:Nat),i≤64→fill B i t=if 4*t+4≤i then part B t 4 else if 4*t<i then part B t (i - 4*t)else 0
 | 0,t,_=>by
  rw [if_neg (by omega),if_neg (by omega)];rfl
 | i+1,t,hi=>by
  unfold fill;split
  ·rename_i ht;subst ht;have ih:=vO hB i (i/4) (by omega);have hi4:i=4*(i/4)+(i - 4*(i/4)):=by omega
   have hk:i - 4*(i/4)<4:=by omega
   generalize hq:i/4=q at*;obtain⟨k,df⟩: ∃k,k=i - 4*q:=⟨_,rfl⟩;have abl:fill B i q=part B q k:=by
    rw [ih,if_neg (by omega)];split
    ·rw [df]
    ·have:k=0:=by omega
     rw [this];rfl
   have hp:=IU hB (show q<16 by omega) k (by omega);have hb:=hB i (by omega);have anw:(256:Nat)^k≤256^3:=Nat.pow_le_pow_right (by decide) (by omega);rw [abl,Nat.mod_eq_of_lt (by omega),show part B q k*256=2^8*part B q k by omega,←Nat.two_pow_add_eq_or_of_lt (by omega)];have hpk:2^8*part B q k+B i=part B q (k+1):=by
    rw [part,show 4*q+k=i by omega];omega
   rw [hpk];by_cases h4:4*q+4≤i+1
   ·rw [if_pos h4,show k+1=4 by omega]
   ·rw [if_neg h4,if_pos (by omega),show i+1 - 4*q=k+1 by omega]
  ·rename_i ht;rw [vO hB i t (by omega)];by_cases h4:4*t+4≤i
   ·rw [if_pos h4,if_pos (by omega)]
   ·have h5: ¬4*t<i:=by omega
    rw [if_neg h4,if_neg h5,if_neg (by omega),if_neg (by omega)]
theorem PA{B:Nat→Nat}(hB: ∀j,j<64→B j<256)(t:Nat):fill B 64 t=gj B 0 t:=by
 rw [vO hB 64 t (Nat.le_refl _)];unfold gj;by_cases ht:t<16
 ·rw [if_pos ht,if_pos (by omega)];simp only [part,word,Nat.add_zero,Nat.zero_mul,Nat.zero_add]
 ·rw [if_neg ht,if_neg (by omega),if_neg (by omega)]
def ahC:List Nat:=[4794697086780616226,8158064640168781261,13096744586834688815,16840607885511220156,4131703408338449720,6480981068601479193,10538285296894168987,12329834152419229976,15566598209576043074,1334009975649890238,2608012711638119052,6128411473006802146,8268148722764581231,9286055187155687089,11230858885718282805,13951009754708518548,16472876342353939154,17275323862435702243,1135362057144423861,2597628984639134821,3308224258029322869,5365058923640841347,6679025012923562964,8573033837759648693,10970295158949994411,12119686244451234320,12683024718118986047,13788192230050041572,14330467153632333762,15395433587784984357,489312712824947311,1452737877330783856,2861767655752347644,3322285676063803686,5560940570517711597,5996557281743188959,7280758554555802590,8532644243296465576,9350256976987008742,10552545826968843579,11727347734174303076,12113106623233404929,14000437183269869457,14369950271660146224,15101387698204529176,15463397548674623760,17586052441742319658,1182934255886127544,1847814050463011016,2177327727835720531,2830643537854262169,3796741975233480872,4115178125766777443,5681478168544905931,6601373596472566643,7507060721942968483,8399075790359081724,8693463985226723168,9568029438360202098,10144078919501101548,10430055236837252648,11840083180663258601,13761210420658862357,14299343276471374635,14566680578165727644,15097957966210449927,16922976911328602910,17689382322260857208,500013540394364858,748580250866718886,1242879168328830382,1977374033974150939,2944078676154940804,3659926193048069267,4368137639120453308,4836135668995329356,5532061633213252278,6448918945643986474,6902733635092675308,7801388544844847127]
def ahD:List Nat:=[7640891576956012808,13503953896175478587,4354685564936845355,11912009170470909681,5840696475078001361,11170449401992604703,2270897969802886507,6620516959819538809]
def K64(j:Nat):Nat:=ahC.getD j 0
def K0(j:Nat):Nat:=K64 j/2^32
def H0(j:Nat):Nat:=ahD.getD j 0/2^32
theorem abm(j:Nat)(hj:j<64):K0 j<2^32:=by
 have: ∀j,j<64→K0 j<2^32:=by decide+kernel
 exact this j hj
theorem abn(j:Nat)(hj:j<8):H0 j<2^32:=by
 have: ∀j,j<8→H0 j<2^32:=by decide+kernel
 exact this j hj
def bytesOf(C:Nat→Nat)(j:Nat):Nat:=C (j/4)/2^(24 - 8*(j%4))%256
theorem PB(C:Nat→Nat)(j:Nat):bytesOf C j<256:=Nat.mod_lt _ (by decide)
theorem bX(w s:Nat)(hs:s≤32):ae .u8 (ar .shr .u32 (w:Int) (s:Int))=((w/2^s%256:Nat):Int):=by
 rw [rC .u32 w s hs,wrap_u8,Nat.shiftRight_eq_div_pow]
end Go.RX.Sh

namespace Go.RX.Fk
open Go.RX Go.Proofs Go.RX.Fe Go.RX.Fg Go.RX.Fi Go.RX.Fj
noncomputable def cx:Ctx:={T:=TT,FT:=FT,loops:=Fk.loops,bj:=Fk.bj}
set_option maxRecDepth 100000
end Go.RX.Fk

namespace Go.RX.Fj
open Go.RX Go.Proofs Go.RX.Fe Go.RX.Fg Go.RX.Fi
noncomputable def cx:Ctx:={T:=TT,FT:=FT,loops:=Fj.loops,bj:=Fj.bj}
set_option maxRecDepth 100000
def yj(al:PT)(x0:Int):Prop:=
 ∃(cE:Ext→Prop) (db:Ext→Nat),(∃x1 x2:Int,x1=0∧x2=1∧cE ⟨[],[],[x1,x2],[],[],[],[]⟩)∧
 ∀x1 x2:Int,cE ⟨[],[],[x1,x2],[],[],[],[]⟩→
 br (x1<x0) (
 iQ (x1+1) ((
 ∃ku gI:Int,ku=(x1+1)∧gI=(ae .u8 (2*x2))∧cE ⟨[],[],[ku,gI],[],[],[],[]⟩∧db ⟨[],[],[ku,gI],[],[],[],[]⟩<db ⟨[],[],[x1,x2],[],[],[],[]⟩))) (
 al (.int .u8 x2) [])
end Go.RX.Fj

namespace Go.RX.Fg
open Go.RX Go.Proofs Go.RX.Fe
noncomputable def cx:Ctx:={T:=TT,FT:=FT,loops:=loops,bj:=bj}
set_option maxRecDepth 100000
end Go.RX.Fg

namespace Go.RX.Fe
open Go.RX Go.Proofs
noncomputable def cx:Ctx:={T:=TT,FT:=FT,loops:=loops,bj:=bj}
set_option maxRecDepth 100000
end Go.RX.Fe

namespace Go.Ae
def upT:Nat:=247704880781559356684414323119999879637317647180040216102211349143305888774923398537951341803642731683984666991564019150676315804531779449815159115664189418245566988781254625896260912026622159780553349108386186142268315007856282091988200171439146255715840100601167723801170608095743514940052926055042184507632911811387723359914440662207451538163404716729158929845121383729837235901114109841630616474463024741216292666125260571984924724184385554713500007113061044175325657975136216706165622836048350080632971744177780693200859426168487707538171671676645432511882666690861394815764438377708986394032816479809277592321
def sT:Nat:=2869618975290639062594974519597816386035077209210385677284518162336985023502962151465775969507961862820568736543004676439868535775640188584098917533413284844376797297285941524888791401501466624530423689326528054213168201056672989590893583853414110162539122864583953358348775951166211353578440977400428507475679327181038682772945817200201960445064847785221508011893952350688324234443749897213621340677040612747745615276448919507935121141307752692835344166708617454322778699219895865633266409040561742768581056182730443599545881830075941537620590442514083341749674612746994879540562701631131184186066652929592955206755
def up(i:Nat):Nat:=upT/256^i%256
def sb(j:Nat):Nat:=sT/256^j%256
def dbl(a:Nat):Nat:=(2*a%256)^^^(27*(a/128))
def rc:Nat→Nat
 | 0=>1
 | n+1=>dbl (rc n)
def W(n:Nat)(K:Nat→Nat)(i k:Nat):Nat:=
 if h:i<n∨n=0 then K (4*i+k)else
  W n K (i - n) k^^^(if i%n=0 then sb (W n K (i - 1) ((k+1)%4))^^^(if k=0 then rc (i/n - 1)else 0)else if n=8∧i%8=4 then sb (W n K (i - 1) k)else W n K (i - 1) k)
termination_by i
decreasing_by all_goals omega
def shS(s:Nat→Nat)(i:Nat):Nat:=sb (s ((i+4*(i%4))%16))
def ahF(t:Nat→Nat)(i:Nat):Nat:=dbl (t i)^^^(t (i/4*4+(i+1)%4)^^^dbl (t (i/4*4+(i+1)%4)))^^^t (i/4*4+(i+2)%4)^^^t (i/4*4+(i+3)%4)
def rs(w:Nat→Nat→Nat)(m:Nat)(B:Nat→Nat):Nat→(Nat→Nat)
 | 0=>fun i=>B i^^^w (i/4) (i%4)
 | r+1=>fun i=>(if r+1<m then ahF (shS (rs w m B r)) i else shS (rs w m B r) i)^^^w (4*(r+1)+i/4) (i%4)
end Go.Ae

namespace Go.RX.Fe
open Go Go.RX Go.Proofs Go.Ae Go.RX.Sh
def cw(n:Nat)(K:Nat→Nat):Nat→Int:=fun j=>(W n K (j/4) (j%4):Nat)
theorem four(w:Nat→Int)(a b c d:Int)(f:Nat→Nat)(h0:a=(f 0:Nat))(h1:b=(f 1:Nat))(h2:c=(f 2:Nat))(h3:d=(f 3:Nat)): ∀k,k<4→aw (aw (aw (aw w 0 a) 1 b) 2 c) 3 d k=(f k:Nat):=by
 intro k hk;have:k=0∨k=1∨k=2∨k=3:=by omega
 rcases this with rfl | rfl | rfl | rfl
 ·exact h0
 ·exact h1
 ·exact h2
 ·exact h3
open Go Go.RX Go.Proofs Go.Ae Go.RX.Sh
theorem IV(i n:Nat):ar .quo .i64 (i:Int) (n:Int)=((i/n:Nat):Int):=by
 simp only [ar];rw [Int.tdiv_eq_ediv_of_nonneg (by omega)];omega
theorem abo(n:Nat)(hn:n<100):ae .i64 (ar .quo .i64 (Int.ofNat (4*(n+7))) 4) - 1=((n+6:Nat):Int):=by
 have:=IV (4*(n+7)) 4;rw [show ar .quo .i64 (Int.ofNat (4*(n+7))) 4=((n+7:Nat):Int) by rw [show(Int.ofNat (4*(n+7)):Int)=((4*(n+7):Nat):Int)from rfl,show(4:Int)=((4:Nat):Int)from rfl,IV];omega];rw [vd .i64 _ (by show(-9223372036854775808:Int)≤_;omega) (by show _≤(9223372036854775807:Int);omega)];omega
end Go.RX.Fe

namespace Go.Ae
def ahG(B:Nat→Nat):Nat:=B 12*16777216+B 13*65536+B 14*256+B 15
def nx(B:Nat→Nat)(j:Nat):Nat:=if j<12 then B j else(ahG B+1)%4294967296/256^(15 - j)%256
end Go.Ae

namespace Go.RX.Fg
open Go Go.RX Go.Proofs Go.Ae Go.RX.Sh Go.RX.Fe
def dg(md:Bool)(v:V1)(n:Nat)(T:Nat→Nat):HP:=aB md 5 1 v.v n (aK n [aC .u8 1 fun j=>(T j:Nat)])
theorem mZ{n:Nat}{f g:Nat→Int}(h: ∀j,j<n→f j=g j):aK n [aC .u8 1 f]=aK n [aC .u8 1 g]:=by
 unfold aK;have: ∀i∈List.range n,([aC .u8 1 f].flatMap fun c=>c i)=([aC .u8 1 g].flatMap fun c=>c i):=by
  intro i hi;rw [aqE]at hi;simp only [List.flatMap_cons,List.flatMap_nil,List.append_nil,aC];exact cn .u8 1 fun j hj=>h (i*1+j) (by omega)
 rw [List.flatMap_def,List.flatMap_def,List.map_congr_left this]
open Go Go.RX Go.Proofs Go.Ae
theorem bJ.abp{a:List HP}{x:HP}(i:Nat)(h:a[i]? =some x):bJ a [x]:=by
 obtain⟨hl,he⟩:=aqo.1 h;refine bJ.sub ?_;rw [List.singleton_sublist];exact he▸List.getElem_mem hl
def od(x:Value)(n:Nat)(T:Nat→Nat):HP:=aB false 5 1 x n (aK n [aC .u8 1 fun j=>(T j:Nat)])
theorem bc.bytes{v:V1}{n:Nat}{T:Nat→Nat}:bc [dg true v n T] (od v.v n T):=bc.own
theorem bc.view{v:V1}{n:Nat}{T:Nat→Nat}:bc [dg false v n T] (od v.v n T):=bc.self rfl
theorem PC(k:IntKind)(n lo m:Nat)(f:Nat→Int)(h:lo+m≤n):((aK n [aC k 1 f]).drop (lo*1)).take (m*1)=aK m [aC k 1 fun j=>f (lo+j)]:=by
 rw [xW,xW,Nat.mul_one,Nat.mul_one,rW,fM k (n - lo) m _ (by omega)]
theorem bc.part{B:List HP}{x:Value}{n lo hi:Nat}{mx:Option Nat}{T:Nat→Nat}(hb:bc B (od x n T))(h1:lo≤hi)(h2:hi≤n)(h3: ∀m,mx=some m→hi≤m):
  bc B (od (aE 1 x lo hi mx) (hi - lo) fun j=>T (lo+j)):=by
 have:=bc.sub (lo:=lo) (hi:=hi) (mx:=mx) hb h1 h2 h3;rw [PC .u8 n lo (hi - lo) _ (by omega)]at this;exact this
theorem bc.block{b n m:Nat}{wr:Bool}{A:Nat→Int}{T:Nat→Nat}(hA: ∀j,j<n→A j=(T j:Nat))(hm:n≤m):bc [ak b wr (aj .u8 n A)] (od (.slice (some ⟨b,0,none⟩) n m) n T):=by
 have:=bc.row (t:=5) (b:=b) (wr:=wr) (lo:=0) (n:=n) (m:=m) (cs:=aj .u8 n A) (by simp [aD]) hm;rw [List.drop_zero,fM .u8 n n _ (Nat.le_refl _)]at this;unfold od;rw [xW,cn .u8 n fun j hj=>(hA j hj).symm];exact this
end Go.RX.Fg

namespace Go.RX.Fj
open Go Go.RX Go.Proofs Go.Ae Go.RX.Sh Go.RX.Fe Go.RX.Fg Go.RX.Fi
theorem abq{a b:Nat}(ha:a<256):ae .u8 (ar .quo .u8 (a:Int) (b:Int))=((a/b:Nat):Int):=by
 have h:ar .quo .u8 (a:Int) (b:Int)=((a/b:Nat):Int):=rfl;rw [h,wrap_u8,Nat.mod_eq_of_lt (Nat.lt_of_le_of_lt (Nat.div_le_self a b) ha)]
open Go Go.RX Go.Proofs Go.Ae Go.RX.Sh Go.RX.Fe Go.RX.Fg Go.RX.Fi
def bs(y k:Nat):Nat:=y/2^k%2+y/2^((k+4)%8)%2+y/2^((k+5)%8)%2+y/2^((k+6)%8)%2+y/2^((k+7)%8)%2+99/2^k%2
def pt(y:Nat):Nat→Nat
 | 0=>0
 | k+1=>pt y k+(if bs y k%2=1 then 2^k else 0)
open Go Go.RX Go.Proofs Go.Ae Go.RX.Sh Go.RX.Fe Go.RX.Fg Go.RX.Fi
theorem w64{a:Nat}(h:a<2^64):ae .u64 (a:Int)=(a:Int):=by rw [wrap_u64,Nat.mod_eq_of_lt h]
open Go Go.RX Go.Proofs Go.Ae Go.RX.Sh Go.RX.Fe Go.RX.Fg Go.RX.Fi
theorem bc.get{B:List HP}{md:Bool}{v:V1}{n:Nat}{T:Nat→Nat}(i:Nat)(h:B[i]? =some (dg md v n T)):bc B (od v.v n T):=by
 obtain⟨hl,he⟩:=aqo.1 h;have e:B=B.take i++[dg md v n T]++B.drop (i+1):=by
  rw [List.append_assoc,←he];simp
 rw [e];refine bc.mid ?_;cases md
 ·exact bc.view
 ·exact bc.bytes
end Go.RX.Fj

namespace Go.Gh
def xs:Nat→(Nat→Bool)→Bool
 | 0,_=>false
 | n+1,f=>xs n f ^^ f n
def xt(f:Nat→Bool):Nat→Bool:=fun i=>if i=0 then f 127 else f (i - 1) ^^ (f 127&&(decide (i=1)||decide (i=2)||decide (i=7)))
def xtn:Nat→(Nat→Bool)→(Nat→Bool)
 | 0,f=>f
 | n+1,f=>xt (xtn n f)
def add(f g:Nat→Bool):Nat→Bool:=fun i=>f i ^^ g i
def e(k:Nat):Nat→Bool:=fun i=>decide (i=k)
def R(k:Nat):Nat→Bool:=xtn k (e 0)
def gm(p q:Nat→Bool):Nat→Bool:=fun i=>xs 128 fun a=>xs 128 fun b=>(p a&&q b)&&R (a+b) i
def xy(p q:Nat→Bool):Nat→(Nat→Bool)
 | 0=>fun _=>false
 | k+1=>fun i=>xt (xy p q k) i ^^ (p (127 - k)&&q i)
def conv(p q:Nat→Bool):Nat→Bool:=fun k=>xs 128 fun a=>xs 128 fun b=>(p a&&q b)&&decide (a+b=k)
def pb(B:Nat→Nat):Nat→Bool:=fun i=>(B (i/8)).testBit (7 - i%8)
def sA(T:Nat→Nat)(len r j:Nat):Nat:=if 16*r+j<len then T (16*r+j)else 0
def gh(H:Nat→Bool)(T:Nat→Nat)(len:Nat):Nat→(Nat→Bool)
 | 0=>fun _=>false
 | r+1=>gm (add (gh H T len r) (pb (sA T len r))) H
end Go.Gh

namespace Go.RX.Fk
open Go Go.RX Go.Proofs Go.Ae Go.RX.Sh Go.RX.Fe Go.RX.Fg Go.RX.Fi Go.RX.Fj Go.Gh
theorem E1{f:Nat}{args:List Value}{L B:List HP}{n:Nat}{T:Nat→Nat}(hm:aq aqQ f args L fun r hs=> ∃o:V1,r=o.v∧hs=[dg true o n T])(hL: ∀h∈L,bc B h):
  aq aqQ f args B fun r hs=> ∃o:V1,r=o.v∧hs=B++[dg true o n T]:=by
 have h:aq aqQ f args ([]++L) fun r hs=> ∃nw,(∃o:V1,r=o.v∧nw=[dg true o n T])∧hs=[]++nw:=by
  refine aq.post hm ?_;rintro r hs ⟨o,hr,rfl⟩;exact⟨_,bJ.refl _,_,⟨o,hr,rfl⟩,rfl⟩
 refine aq.post (aq.TX h (by simp) ?_ hL) ?_
 ·rintro v nw ⟨o,_,rfl⟩ h hh;simp only [List.mem_cons,List.not_mem_nil,or_false]at hh;subst hh;rfl
 ·rintro r hs ⟨nw,⟨o,hr,rfl⟩,rfl⟩;exact⟨_,bJ.refl _,o,hr,rfl⟩
theorem abr{p:HP→Prop}{a:HP}(h:p a): ∀x∈[a],p x:=by simpa using h
def b1(b:Bool):Nat:=if b then 1 else 0
end Go.RX.Fk
