/- Polynomials az numbers and az blocks. -/
import Derived.Test.YtmgbbbmdbpbeeaaM33
open Go.IntKind renaming wrap → ae
open Go.Proofs.Try renaming prog → adE
open Int renaming toNat → ag
open List renaming append → ads, append_eq → adG, getD_cons_succ → adx, getD_cons_zero → ah, getElem?_eq_some_iff → adu, mem_cons → adW, not_mem_nil → adP
open Nat renaming eq_of_testBit_eq → aei, lt_of_lt_of_le → adI, mod_eq_of_lt → adQ
namespace Go.Gh
def num(p:Nat→Bool):Nat→Nat
 | 0=>0
 | n+1=>num p n+(if p n then 2^n else 0)
theorem kq(p:Nat→Bool): ∀n,num p n<2^n
 | 0=>Nat.one_pos
 | n+1=>by
  have:=kq p n;rw [num,Nat.pow_succ];split<;>omega
theorem dI(p:Nat→Bool): ∀(n i:Nat),(num p n).testBit i=(decide (i<n)&&p i)
 | 0,i=>by rw [num,Nat.zero_testBit];simp
 | n+1,i=>by
  rw [num];split
  ·rename_i hp;have h:=Nat.two_pow_add_eq_or_of_lt (kq p n) 1;rw [Nat.mul_one]at h;rw [Nat.add_comm,h,Nat.testBit_or,Nat.testBit_two_pow,dI p n i];by_cases e:n=i
   ·subst e;simp [hp]
   ·have:decide (i<n+1)=decide (i<n):=by rw [decide_eq_decide];omega
    rw [this];simp [e]
  ·rename_i hp;rw [Nat.add_zero,dI p n i];by_cases e:n=i
   ·subst e;simp [hp]
   ·have:decide (i<n+1)=decide (i<n):=by rw [decide_eq_decide];omega
    rw [this]
theorem fv{p q:Nat→Bool}{n:Nat}(h: ∀i,i<n→p i=q i):num p n=num q n:=by
 refine aei fun i=>?_
 rw [dI,dI];by_cases hi:i<n
 ·rw [h i hi]
 ·simp [hi]
theorem pE{x n:Nat}(hx:x<2^n)(i:Nat)(hi:n≤i):x.testBit i=false:=Nat.testBit_lt_two_pow (adI hx (Nat.pow_le_pow_right (by decide) hi))
def rev(x:Nat):Nat:=num (fun i=>x.testBit (63 - i)) 64
def Ci(m k x:Nat):Nat:=((x >>> k) &&& m)|||((x &&& m)*2^k%2^64)
def flip(k i:Nat):Nat:=if i/k%2=0 then i+k else i - k
theorem lq(m k x:Nat)(hx:x<2^64):Ci m k x<2^64:=by
 unfold Ci;refine Nat.or_lt_two_pow (Nat.lt_of_le_of_lt Nat.and_le_left ?_) (Nat.mod_lt _ (by decide));rw [Nat.shiftRight_eq_div_pow];exact Nat.lt_of_le_of_lt (Nat.div_le_self _ _) hx
theorem qd{m k x:Nat}(hk:k=1∨k=2∨k=4∨k=8∨k=16∨k=32)(hm: ∀i:Fin 64,m.testBit i.val=decide (i.val/k%2=0))(_:x<2^64)(i:Nat)(hi:i<64):
  (Ci m k x).testBit i=x.testBit (flip k i):=by
 unfold Ci flip;rw [Nat.testBit_or,Nat.testBit_and,Nat.testBit_shiftRight,hm ⟨i,hi⟩,Nat.testBit_mod_two_pow,←Nat.shiftLeft_eq,Nat.testBit_shiftLeft,Nat.testBit_and];simp only [hi,decide_true,Bool.true_and];by_cases h:i/k%2=0
 ·rw [if_pos h];have h2:(decide (i≥k)&&(x.testBit (i - k)&&m.testBit (i - k)))=false:=by
   by_cases QP:i≥k
   ·rw [hm ⟨i - k,by omega⟩];have: ¬(i - k)/k%2=0:=by rcases hk with rfl | rfl | rfl | rfl | rfl | rfl<;>omega
    simp [this]
   ·simp [QP]
  rw [h2];simp [h,Nat.add_comm]
 ·rw [if_neg h];have QP:i≥k:=by rcases hk with rfl | rfl | rfl | rfl | rfl | rfl<;>omega
  have h3:(i - k)/k%2=0:=by rcases hk with rfl | rfl | rfl | rfl | rfl | rfl<;>omega
  rw [hm ⟨i - k,by omega⟩];simp [h,QP,h3]
theorem Vf: ∀i:Fin 64,Nat.testBit 6148914691236517205 i.val=decide (i.val/1%2=0):=by decide+kernel
theorem Vg: ∀i:Fin 64,Nat.testBit 3689348814741910323 i.val=decide (i.val/2%2=0):=by decide+kernel
theorem Vh: ∀i:Fin 64,Nat.testBit 1085102592571150095 i.val=decide (i.val/4%2=0):=by decide+kernel
theorem Vi: ∀i:Fin 64,Nat.testBit 71777214294589695 i.val=decide (i.val/8%2=0):=by decide+kernel
theorem SG: ∀i:Fin 64,Nat.testBit 281470681808895 i.val=decide (i.val/16%2=0):=by decide+kernel
theorem SH: ∀i:Fin 64,Nat.testBit 4294967295 i.val=decide (i.val/32%2=0):=by decide+kernel
theorem Vj: ∀i:Fin 64,flip 1 (flip 2 (flip 4 (flip 8 (flip 16 (flip 32 i.val)))))=63 - i.val:=by decide+kernel
theorem sI: ∀i:Fin 64,flip 32 i.val<64∧flip 16 i.val<64∧flip 8 i.val<64∧flip 4 i.val<64∧flip 2 i.val<64:=by decide+kernel
theorem GM(x:Nat)(hx:x<2^64):(x >>> 32)|||(x*2^32%2^64)=Ci 4294967295 32 x:=by
 unfold Ci;have h1:x >>> 32 &&& 4294967295=x >>> 32:=by
  rw [show(4294967295:Nat)=2^32 - 1 by decide,Nat.and_two_pow_sub_one_eq_mod,adQ];rw [Nat.shiftRight_eq_div_pow];omega
 have h2:(x &&& 4294967295)*2^32%2^64=x*2^32%2^64:=by
  rw [show(4294967295:Nat)=2^32 - 1 by decide,Nat.and_two_pow_sub_one_eq_mod];omega
 rw [h1,h2]
theorem rev_eq(x:Nat)(hx:x<2^64):Ci 4294967295 32 (Ci 281470681808895 16 (Ci 71777214294589695 8 (Ci 1085102592571150095 4 (Ci 3689348814741910323 2 (Ci 6148914691236517205 1 x)))))=rev x:=by
 have l1:=lq 6148914691236517205 1 x hx;have l2:=lq 3689348814741910323 2 _ l1;have l4:=lq 1085102592571150095 4 _ l2;have l8:=lq 71777214294589695 8 _ l4;have WD:=lq 281470681808895 16 _ l8;have l32:=lq 4294967295 32 _ WD;refine aei fun i=>?_
 unfold rev;rw [dI];by_cases hi:i<64
 ·have f1:=(sI ⟨i,hi⟩).1;have f2:=(sI ⟨_,f1⟩).2.1;have f3:=(sI ⟨_,f2⟩).2.2.1;have f4:=(sI ⟨_,f3⟩).2.2.2.1;have f5:=(sI ⟨_,f4⟩).2.2.2.2;rw [qd (by decide) SH WD i hi,qd (by decide) SG l8 _ f1,qd (by decide) Vi l4 _ f2,qd (by decide) Vh l2 _ f3,qd (by decide) Vg l1 _ f4,qd (by decide) Vf hx _ f5,Vj ⟨i,hi⟩];simp [hi]
 ·rw [pE l32 i (by omega)];simp [hi]
def pb(B:Nat→Nat):Nat→Bool:=fun i=>(B (i/8)).testBit (7 - i%8)
def bp(p:Nat→Bool):Nat→Nat:=fun j=>num (fun k=>p (8*j+(7 - k))) 8
def sJ(f:Nat→Nat):Nat→Nat
 | 0=>0
 | n+1=>sJ f n*256+f n
theorem ry(f:Nat→Nat)(hf: ∀j,f j<256): ∀n,sJ f n<256^n
 | 0=>Nat.one_pos
 | n+1=>by
  have:=ry f hf n;have:=hf n;rw [sJ,Nat.pow_succ];omega
theorem Cj(f:Nat→Nat)(hf: ∀j,f j<256): ∀(n i:Nat),i<8*n→(sJ f n).testBit (8*n - 1 - i)=(f (i/8)).testBit (7 - i%8)
 | 0,i,h=>by omega
 | n+1,i,h=>by
  have hb:=hf n;rw [sJ,Nat.mul_comm,show(256:Nat)=2^8 by decide,Nat.testBit_two_pow_mul_add _ (by omega)];split
  ·rename_i h8;rw [show i/8=n by omega,show 7 - i%8=8*(n+1) - 1 - i by omega]
  ·rename_i h8;rw [show 8*(n+1) - 1 - i - 8=8*n - 1 - i by omega];exact Cj f hf n i (by omega)
theorem PZ(B:Nat→Nat)(hB: ∀j,B j<256)(o:Nat):rev (sJ (fun j=>B (o+j)) 8)=num (fun i=>pb B (8*o+i)) 64:=by
 unfold rev;refine fv fun i hi=>?_
 have:=Cj (fun j=>B (o+j)) (fun j=>hB _) 8 i (by omega);rw [show 8*8 - 1 - i=63 - i by omega]at this;rw [this];unfold pb;rw [show(8*o+i)/8=o+i/8 by omega,show(8*o+i)%8=i%8 by omega]
theorem EJ(p:Nat→Bool)(o j:Nat)(hj:j<8):rev (num (fun i=>p (8*o+i)) 64) >>> (56 - 8*j)%256=bp p (o+j):=by
 refine aei fun k=>?_
 unfold rev bp;rw [show(256:Nat)=2^8 by decide,Nat.testBit_mod_two_pow,Nat.testBit_shiftRight,dI,dI,dI];by_cases hk:k<8
 ·rw [show 8*o+(63 - (56 - 8*j+k))=8*(o+j)+(7 - k) by omega];simp [hk,show 56 - 8*j+k<64 by omega];omega
 ·simp [hk]
theorem Vk(p:Nat→Bool)(j:Nat):bp p j<256:=kq _ 8
theorem Rc(p:Nat→Bool)(i:Nat):pb (bp p) i=p i:=by
 unfold pb bp;rw [dI,show 8*(i/8)+(7 - (7 - i%8))=i by omega,decide_eq_true (show 7 - i%8<8 by omega)];simp
theorem P0{A B:Nat→Nat}(h: ∀j,j<16→A j=B j)(i:Nat)(hi:i<128):pb A i=pb B i:=by
 unfold pb;rw [h _ (by omega)]
theorem Ip(p q:Nat→Bool)(n:Nat):num p n^^^num q n=num (fun i=>p i ^^ q i) n:=by
 refine aei fun i=>?_
 rw [Nat.testBit_xor,dI,dI,dI];by_cases h:i<n<;>simp [h]
theorem Iq(i:Nat):Nat.testBit 1 i=decide (i=0):=by
 have:=Nat.testBit_two_pow (n:=0) (m:=i);rw [Nat.pow_zero]at this;rw [this];simp [eq_comm]
theorem Ir(p:Nat→Bool):num p 64 >>> 63=if p 63 then 1 else 0:=by
 refine aei fun i=>?_
 rw [Nat.testBit_shiftRight,dI];by_cases h:i=0
 ·subst h;cases p 63<;>simp
 ·rw [show decide (63+i<64)=false by simp;omega];split
  ·rw [Iq];simp [h]
  ·simp
theorem SI: ∀i:Fin 64,Nat.testBit 135 i.val=(decide (i.val=0)||decide (i.val=1)||decide (i.val=2)||decide (i.val=7)):=by decide+kernel
theorem SJ(f:Nat→Bool):(num f 64*2^1%2^64)^^^((num (fun i=>f (64+i)) 64 >>> 63)*135%2^64)=num (xt f) 64:=by
 rw [Ir];refine aei fun i=>?_
 rw [Nat.testBit_xor,dI];by_cases hi:i<64
 ·rw [Nat.testBit_mod_two_pow,←Nat.shiftLeft_eq,Nat.testBit_shiftLeft,dI];have X3:((if f (64+63)=true then 1 else 0)*135%2^64).testBit i=(f 127&&Nat.testBit 135 i):=by
   cases f 127<;>simp
  rw [X3,SI ⟨i,hi⟩];unfold xt;by_cases h0:i=0
  ·subst h0;simp
  ·simp [hi,h0,show i≥1 by omega,show i - 1<64 by omega]
 ·rw [pE (n:=64) (Nat.mod_lt _ (by decide)) i (by omega),pE (n:=64) (Nat.mod_lt _ (by decide)) i (by omega)];simp [hi]
theorem P1(f:Nat→Bool):(num (fun i=>f (64+i)) 64*2^1%2^64)|||(num f 64 >>> 63)=num (fun i=>xt f (64+i)) 64:=by
 rw [Ir];refine aei fun i=>?_
 rw [Nat.testBit_or,dI];have h1:(if f 63=true then 1 else 0:Nat).testBit i=(f 63&&decide (i=0)):=by
  cases f 63<;>simp [Iq]
 rw [h1];by_cases hi:i<64
 ·rw [Nat.testBit_mod_two_pow,←Nat.shiftLeft_eq,Nat.testBit_shiftLeft,dI];unfold xt;by_cases h0:i=0
  ·subst h0;simp
  ·simp [hi,h0,show i≥1 by omega,show i - 1<64 by omega,show 64+i - 1=64+(i - 1) by omega,show¬64+i=1 by omega,show¬64+i=2 by omega,show¬64+i=7 by omega]
 ·rw [pE (n:=64) (Nat.mod_lt _ (by decide)) i (by omega)];simp [hi,show¬i=0 by omega]
theorem P2(x s:Nat):(x >>> s &&& 1)=1↔x.testBit s=true:=by
 rw [Nat.testBit,Nat.and_comm];have h:1 &&& x >>> s=x >>> s%2:=Nat.one_and_eq_mod_two _;rw [h];have:=Nat.mod_lt (x >>> s) (show 0<2 by decide);constructor
 ·intro e;rw [e];rfl
 ·intro e;have:x >>> s%2≠0:=by simpa using e
  omega
end Go.Gh

namespace Go.RX.Fh
open Go Go.RX Go.Proofs Go.Ae Go.RX.Sh Go.RX.Fe Go.RX.Fg Go.Gh
theorem MP{a b:Nat}(ha:a<2^64)(hb:b<2^64):ak .bJ .u64 (a:Int) (b:Int)=((a|||b:Nat):Int):=by
 show ae .u64 ((BitVec.ofInt 64 (a:Int)|||BitVec.ofInt 64 (b:Int)).toNat:Int)=_;rw [wrap_u64,BitVec.toNat_or,cj,cj,adQ ha,adQ hb,adQ (Nat.or_lt_two_pow ha hb)]
theorem yw(a n:Nat)(hn:n≤64):ak .shl .u64 (a:Int) (n:Int)=((a*2^n%2^64:Nat):Int):=by
 show ae .u64 ((a:Int)*2^(min (ag (n:Int)) 64))=_;rw [show min (ag (n:Int)) 64=n by rw [Int.toNat_natCast];omega,show((a:Int)*2^n)=((a*2^n:Nat):Int) by rw [Int.natCast_mul,Int.natCast_pow];rfl,wrap_u64]
theorem Cm{a n:Nat}(ha:a<2^64):a >>> n<2^64:=by
 rw [Nat.shiftRight_eq_div_pow];exact Nat.lt_of_le_of_lt (Nat.div_le_self _ _) ha
theorem MQ{m k x:Nat}(hx:x<2^64)(hm:m<2^64)(hk:k≤64):ak .bJ .u64 (ak .aQ .u64 (ak .shr .u64 (x:Int) (k:Int)) (m:Int)) (ak .shl .u64 (ak .aQ .u64 (x:Int) (m:Int)) (k:Int))=((Ci m k x:Nat):Int):=by
 rw [fM .u64 x k hk,Ms (Cm hx) hm,Ms hx hm,yw _ _ hk,MP (Nat.lt_of_le_of_lt Nat.and_le_right hm) (Nat.mod_lt _ (by decide))];rfl
theorem X4{x:Nat}(hx:x<2^64):ak .bJ .u64 (ak .aQ .u64 (ak .shr .u64 (x:Int) 1) 6148914691236517205) (ak .shl .u64 (ak .aQ .u64 (x:Int) 6148914691236517205) 1)=((Ci 6148914691236517205 1 x:Nat):Int):=MQ hx (by decide) (by decide)
theorem X5{x:Nat}(hx:x<2^64):ak .bJ .u64 (ak .aQ .u64 (ak .shr .u64 (x:Int) 2) 3689348814741910323) (ak .shl .u64 (ak .aQ .u64 (x:Int) 3689348814741910323) 2)=((Ci 3689348814741910323 2 x:Nat):Int):=MQ hx (by decide) (by decide)
theorem X6{x:Nat}(hx:x<2^64):ak .bJ .u64 (ak .aQ .u64 (ak .shr .u64 (x:Int) 4) 1085102592571150095) (ak .shl .u64 (ak .aQ .u64 (x:Int) 1085102592571150095) 4)=((Ci 1085102592571150095 4 x:Nat):Int):=MQ hx (by decide) (by decide)
theorem X7{x:Nat}(hx:x<2^64):ak .bJ .u64 (ak .aQ .u64 (ak .shr .u64 (x:Int) 8) 71777214294589695) (ak .shl .u64 (ak .aQ .u64 (x:Int) 71777214294589695) 8)=((Ci 71777214294589695 8 x:Nat):Int):=MQ hx (by decide) (by decide)
theorem Vl{x:Nat}(hx:x<2^64):ak .bJ .u64 (ak .aQ .u64 (ak .shr .u64 (x:Int) 16) 281470681808895) (ak .shl .u64 (ak .aQ .u64 (x:Int) 281470681808895) 16)=((Ci 281470681808895 16 x:Nat):Int):=MQ hx (by decide) (by decide)
theorem Vm{x:Nat}(hx:x<2^64):ak .bJ .u64 (ak .shr .u64 (x:Int) 32) (ak .shl .u64 (x:Int) 32)=((Ci 4294967295 32 x:Nat):Int):=by
 have h1:ak .shr .u64 (x:Int) 32=((x >>> 32:Nat):Int):=fM .u64 x 32 (by decide);have h2:ak .shl .u64 (x:Int) 32=((x*2^32%2^64:Nat):Int):=yw x 32 (by decide);rw [h1,h2,MP (Cm hx) (Nat.mod_lt _ (by decide)),GM x hx]
theorem qe(x:Nat)(hx:x<2^64):ar adE 77 [.int .u64 (x:Int)] [] fun r hs=>r= .int .u64 (rev x:Nat)∧hs=[]:=by
 refine ar.nW (C:=Fh.cx) (aX:={i:=1}) (ρ:={iv:=[(x:Int)]}) FN qv FO Try.func77 (by constructor<;>rfl) (fun r=>r= .int .u64 (rev x:Nat))
  (args:=[.int .u64 (.var 0)]) PH (Sv adE (fun r _=>r= .int .u64 (rev x:Nat)) (x:Int) (fun _=>LC.none)) ?_
 unfold MA;have l1:=lq 6148914691236517205 1 x hx;have l2:=lq 3689348814741910323 2 _ l1;have l4:=lq 1085102592571150095 4 _ l2;have l8:=lq 71777214294589695 8 _ l4;have WD:=lq 281470681808895 16 _ l8;rw [X4 hx,X5 l1,X6 l2,X7 l4,Vl l8,Vm WD,rev_eq x hx]
def lu(p:Nat→Bool):Value:= .agg #[.int .u64 (num p 64:Nat),.int .u64 (num (fun i=>p (64+i)) 64:Nat)]
theorem Oa{a b:Nat}(ha:a<2^56)(hb:b<256):ak .bJ .u64 (ak .shl .u64 (a:Int) 8) (ae .u64 (b:Int))=((a*256+b:Nat):Int):=by
 have h2:ak .shl .u64 (a:Int) 8=((a*2^8%2^64:Nat):Int):=yw a 8 (by decide);rw [h2,wrap_u64,MP (Nat.mod_lt _ (by decide)) (Nat.mod_lt _ (by decide)),adQ (show a*2^8<2^64 by omega),adQ (show b<2^64 by omega),Nat.mul_comm a,←Nat.two_pow_add_eq_or_of_lt (by omega),Nat.mul_comm]
theorem wd0{b:Nat}(hb:b<256):ak .bJ .u64 0 (ae .u64 (b:Int))=((b:Nat):Int):=by
 rw [wrap_u64,adQ (show b<2^64 by omega)];have:=MP (a:=0) (b:=b) (by decide) (by omega);rw [Nat.zero_or]at this;exact this
theorem ZG(f:Nat→Nat)(hf: ∀j,f j<256):
  ak .bJ .u64 (ak .shl .u64 (ak .bJ .u64 (ak .shl .u64 (ak .bJ .u64 (ak .shl .u64 (ak .bJ .u64 (ak .shl .u64 (ak .bJ .u64 (ak .shl .u64 (ak .bJ .u64 (ak .shl .u64 (ak .bJ .u64 (ak .shl .u64 (ak .bJ .u64 0 (ae .u64 (f 0:Nat))) 8) (ae .u64 (f 1:Nat))) 8) (ae .u64 (f 2:Nat))) 8) (ae .u64 (f 3:Nat))) 8) (ae .u64 (f 4:Nat))) 8) (ae .u64 (f 5:Nat))) 8) (ae .u64 (f 6:Nat))) 8) (ae .u64 (f 7:Nat))=((sJ f 8:Nat):Int):=by
 have h0:=hf 0;have h1:=hf 1;have h2:=hf 2;have h3:=hf 3;have h4:=hf 4;have h5:=hf 5;have h6:=hf 6;have h7:=hf 7;rw [wd0 h0,Oa (by omega) h1,Oa (by omega) h2,Oa (by omega) h3,Oa (by omega) h4,Oa (by omega) h5,Oa (by omega) h6,Oa (by omega) h7];simp only [sJ,Nat.zero_mul,Nat.zero_add]
theorem EK(B:Nat→Nat)(hB: ∀j,B j<256):ar adE 66 [bW B] [] fun x hs=>x=lu (pb B)∧hs=[]:=by
 have h:=ar.nW (C:=Fh.cx) (aX:={a:=1}) (ρ:={av:=[fun j=>(B j:Nat)]}) FN qv FO Try.func66 (by constructor<;>rfl) (fun x=>x=lu (pb B))
  (args:=[.agg [.cD .u8 16 (.aO 0)]]) Sw (U4 adE (fun x _=>x=lu (pb B)) (fun j=>(B j:Nat)) (fun _=>LC.none)) ?_
 ·have hv:SV.vals {av:=[fun j=>(B j:Nat)]} [.agg [.cD .u8 16 (.aO 0)]]=[bW B]:=by
   show [Value.agg (ads (aj .u8 16 fun j=>(B j:Nat)) []).toArray]=_;rw [adG,List.append_nil];rfl
  rw [hv]at h;exact h
 unfold Q_;intro _ _ _;have w0:=ZG (fun j=>B (8*0+j)) fun j=>hB _
 have w1:=ZG (fun j=>B (8*1+j)) fun j=>hB _
 have l0:sJ (fun j=>B (8*0+j)) 8<2^64:=ry _ (fun j=>hB _) 8;have l1:sJ (fun j=>B (8*1+j)) 8<2^64:=ry _ (fun j=>hB _) 8;simp only [Nat.mul_zero,Nat.mul_one,Nat.zero_add,Nat.reduceAdd]at w0 w1 l0 l1;rw [w0,w1];refine⟨_,qe _ l0,?_⟩;rintro x hs ⟨rfl,rfl⟩;refine⟨_,rfl,rfl,_,qe _ l1,?_⟩;rintro x hs ⟨rfl,rfl⟩;refine⟨_,rfl,rfl,?_⟩;have r0:=PZ B hB 0;have r1:rev (sJ (fun j=>B (8+j)) 8)=num (fun i=>pb B (64+i)) 64:=by
  have:=Cj (fun j=>B (8+j)) (fun j=>hB _) 8;unfold rev;refine fv fun i hi=>?_
  have:=this i (by omega);rw [show 8*8 - 1 - i=63 - i by omega]at this;rw [this];unfold pb;rw [show(64+i)/8=8+i/8 by omega,show(64+i)%8=i%8 by omega]
 simp only [Nat.mul_zero,Nat.zero_add]at r0;rw [r0,r1];rfl
open Go Go.RX Go.Proofs Go.Ae Go.RX.Sh Go.RX.Fe Go.RX.Fg Go.Gh
theorem Rd(x s:Nat)(hs:s≤64):ae .u8 (ak .shr .u64 (x:Int) (s:Int))=((x >>> s%256:Nat):Int):=by
 rw [fM .u64 x s hs,wrap_u8]
theorem j4(p:Nat→Bool)(j:Nat)(hj:j<8)(s:Int)(hs:((56 - 8*j:Nat):Int)=s):ae .u8 (ak .shr .u64 ((rev (num p 64):Nat):Int) s)=((bp p j:Nat):Int):=by
 subst hs;rw [Rd _ _ (by omega)];have:=EJ p 0 j hj;simp only [Nat.mul_zero,Nat.zero_add]at this;rw [this]
theorem iB(p:Nat→Bool)(j:Nat)(hj:j<8)(s:Int)(hs:((56 - 8*j:Nat):Int)=s):ae .u8 (ak .shr .u64 ((rev (num (fun i=>p (64+i)) 64):Nat):Int) s)=((bp p (8+j):Nat):Int):=by
 subst hs;rw [Rd _ _ (by omega)];have:=EJ p 8 j hj;rw [show(fun i=>p (8*8+i))=fun i=>p (64+i)from rfl]at this;rw [this]
theorem J7(p:Nat→Bool):Value.agg #[.int .u8 (ae .u8 (ak .shr .u64 ((rev (num p 64):Nat):Int) 56)),.int .u8 (ae .u8 (ak .shr .u64 ((rev (num p 64):Nat):Int) 48)),.int .u8 (ae .u8 (ak .shr .u64 ((rev (num p 64):Nat):Int) 40)),.int .u8 (ae .u8 (ak .shr .u64 ((rev (num p 64):Nat):Int) 32)),.int .u8 (ae .u8 (ak .shr .u64 ((rev (num p 64):Nat):Int) 24)),.int .u8 (ae .u8 (ak .shr .u64 ((rev (num p 64):Nat):Int) 16)),.int .u8 (ae .u8 (ak .shr .u64 ((rev (num p 64):Nat):Int) 8)),.int .u8 (ae .u8 (ak .shr .u64 ((rev (num p 64):Nat):Int) 0)),.int .u8 (ae .u8 (ak .shr .u64 ((rev (num (fun i=>p (64+i)) 64):Nat):Int) 56)),.int .u8 (ae .u8 (ak .shr .u64 ((rev (num (fun i=>p (64+i)) 64):Nat):Int) 48)),.int .u8 (ae .u8 (ak .shr .u64 ((rev (num (fun i=>p (64+i)) 64):Nat):Int) 40)),.int .u8 (ae .u8 (ak .shr .u64 ((rev (num (fun i=>p (64+i)) 64):Nat):Int) 32)),.int .u8 (ae .u8 (ak .shr .u64 ((rev (num (fun i=>p (64+i)) 64):Nat):Int) 24)),.int .u8 (ae .u8 (ak .shr .u64 ((rev (num (fun i=>p (64+i)) 64):Nat):Int) 16)),.int .u8 (ae .u8 (ak .shr .u64 ((rev (num (fun i=>p (64+i)) 64):Nat):Int) 8)),.int .u8 (ae .u8 (ak .shr .u64 ((rev (num (fun i=>p (64+i)) 64):Nat):Int) 0))]=bW (bp p):=by
 rw [j4 p 0 (by decide) 56 rfl,j4 p 1 (by decide) 48 rfl,j4 p 2 (by decide) 40 rfl,j4 p 3 (by decide) 32 rfl,j4 p 4 (by decide) 24 rfl,j4 p 5 (by decide) 16 rfl,j4 p 6 (by decide) 8 rfl,j4 p 7 (by decide) 0 rfl,
  iB p 0 (by decide) 56 rfl,iB p 1 (by decide) 48 rfl,iB p 2 (by decide) 40 rfl,iB p 3 (by decide) 32 rfl,iB p 4 (by decide) 24 rfl,iB p 5 (by decide) 16 rfl,iB p 6 (by decide) 8 rfl,iB p 7 (by decide) 0 rfl]
 unfold bW;generalize bp p=f;rfl
theorem pF(p:Nat→Bool):ar adE 69 [lu p] [] fun x hs=>x=bW (bp p)∧hs=[]:=by
 have h:=ar.nW (C:=Fh.cx) (aX:={i:=2}) (ρ:={iv:=[(num p 64:Nat),(num (fun i=>p (64+i)) 64:Nat)]}) FN qv FO Try.func69 (by constructor<;>rfl) (fun x=>x=bW (bp p))
  (args:=[Md 0]) J4 (MC adE (fun x _=>x=bW (bp p)) (num p 64:Nat) (num (fun i=>p (64+i)) 64:Nat) (fun _=>LC.none)) ?_
 ·exact h
 unfold mI;have h0:=qe _ (kq p 64);have h1:=qe _ (kq (fun i=>p (64+i)) 64);have hf:=J7 p;intro _ _;refine⟨⟨_,h0,?_⟩,fun _=>⟨_,h0,?_⟩⟩
 ·rintro x hs ⟨rfl,rfl⟩;refine⟨_,rfl,rfl,⟨_,h1,?_⟩,fun _=>⟨_,h1,?_⟩⟩
  ·rintro x hs ⟨rfl,rfl⟩;exact⟨_,rfl,rfl,fun _ _=>hf⟩
  ·rintro x hs ⟨rfl,rfl⟩;exact⟨_,rfl,rfl,fun _=>hf⟩
 ·rintro x hs ⟨rfl,rfl⟩;refine⟨_,rfl,rfl,_,h1,?_⟩;rintro x hs ⟨rfl,rfl⟩;exact⟨_,rfl,rfl,fun _=>hf⟩
open Go Go.RX Go.Proofs Go.Ae Go.RX.Sh Go.RX.Fe Go.RX.Fg Go.Gh
theorem SK(n:Nat):(n:Int)*(135:Int)=((n*135:Nat):Int):=by omega
theorem Vn(f:Nat→Bool):ak .aD .u64 (ak .shl .u64 ((num f 64:Nat):Int) 1) (ae .u64 ((ak .shr .u64 ((num (fun i=>f (64+i)) 64:Nat):Int) 63)*135))=((num (xt f) 64:Nat):Int):=by
 have h1:ak .shl .u64 ((num f 64:Nat):Int) 1=((num f 64*2^1%2^64:Nat):Int):=yw _ 1 (by decide);have h2:ak .shr .u64 ((num (fun i=>f (64+i)) 64:Nat):Int) 63=((num (fun i=>f (64+i)) 64 >>> 63:Nat):Int):=fM .u64 _ 63 (by decide);rw [h1,h2,SK,wrap_u64,Mr (Nat.mod_lt _ (by decide)) (Nat.mod_lt _ (by decide)),SJ]
theorem SL(f:Nat→Bool):ak .bJ .u64 (ak .shl .u64 ((num (fun i=>f (64+i)) 64:Nat):Int) 1) (ak .shr .u64 ((num f 64:Nat):Int) 63)=((num (fun i=>xt f (64+i)) 64:Nat):Int):=by
 have h1:ak .shl .u64 ((num (fun i=>f (64+i)) 64:Nat):Int) 1=((num (fun i=>f (64+i)) 64*2^1%2^64:Nat):Int):=yw _ 1 (by decide);have h2:ak .shr .u64 ((num f 64:Nat):Int) 63=((num f 64 >>> 63:Nat):Int):=fM .u64 _ 63 (by decide);rw [h1,h2,MP (Nat.mod_lt _ (by decide)) (Cm (kq _ _)),P1]
theorem Vo(x s:Nat)(hx:x<2^64)(hs:s≤64):ak .aQ .u64 (ak .shr .u64 (x:Int) (s:Int)) 1=1↔x.testBit s=true:=by
 have h2:ak .aQ .u64 ((x >>> s:Nat):Int) 1=((x >>> s &&& 1:Nat):Int):=Ms (Cm hx) (by decide);rw [fM .u64 x s hs,h2,←P2];constructor
 ·intro h;exact Int.ofNat.inj h
 ·intro h;rw [h];rfl
theorem GN{p q:Nat→Bool}(h: ∀i,i<128→p i=q i):lu p=lu q:=by
 unfold lu;rw [fv (n:=64) fun i hi=>h i (by omega),fv (p:=fun i=>p (64+i)) (q:=fun i=>q (64+i)) (n:=64) fun i hi=>h (64+i) (by omega)]
theorem EL(p q:Nat→Bool):ar adE 68 [lu p,lu q] [] fun x hs=>x=lu (gm p q)∧hs=[]:=by
 have h:=ar.nW (C:=Fh.cx) (aX:={i:=4}) (ρ:={iv:=[(num p 64:Nat),(num (fun i=>p (64+i)) 64:Nat),(num q 64:Nat),(num (fun i=>q (64+i)) 64:Nat)]}) FN qv FO Try.func68 (by constructor<;>rfl) (fun x=>x=lu (gm p q))
  (args:=[Md 0,Md 2]) J3 (MB adE (fun x _=>x=lu (gm p q)) (num p 64:Nat) (num (fun i=>p (64+i)) 64:Nat) (num q 64:Nat) (num (fun i=>q (64+i)) 64:Nat) (fun _=>LC.none)) ?_
 ·exact h
 unfold EF;intro _ _ _ _;refine⟨fun e=> ∃k:Nat,k≤128∧e.i.getD 0 0=(num (ns p q k) 64:Nat)∧e.i.getD 1 0=(num (fun i=>ns p q k (64+i)) 64:Nat)∧e.i.getD 2 0=127 - (k:Int),fun e=>(e.i.getD 2 0+1).toNat,⟨0,0,127,rfl,rfl,rfl,0,by omega,?_,?_,rfl⟩,?_⟩
 ·show(0:Int)=((num (fun _=>false) 64:Nat):Int);decide
 ·show(0:Int)=((num (fun _=>false) 64:Nat):Int);decide
 rintro x4 x5 x6 ⟨k,hk,h4,h5,h6⟩;simp only [ah,adx]at h4 h5 h6;subst h4 h5 h6;rw [Vn,SL];have hx: ∀a b:Nat→Bool,ak .aD .u64 ((num a 64:Nat):Int) ((num b 64:Nat):Int)=((num (fun i=>a i ^^ b i) 64:Nat):Int):=fun a b=>by rw [Mr (kq _ _) (kq _ _),Ip]
 rw [hx,hx];have on:p (127 - k)=true→∀i,ns p q (k+1) i=(xt (ns p q k) i ^^ q i):=fun h i=>by
  rw [ns,h];simp only [Bool.true_and]
 have off: ¬p (127 - k)=true→∀i,ns p q (k+1) i=xt (ns p q k) i:=fun h i=>by
  rw [ns];simp only [Bool.not_eq_true]at h;rw [h];simp
 refine⟨fun h0=>?_,fun h0=>?_⟩
 ·have Is:k+1≤128:=by omega
  have hc:(127 - (k:Int))=((127 - k:Nat):Int):=by omega
  rw [hc,show(64:Int)=((64:Nat):Int)from rfl,wE];refine⟨fun h64=>⟨by omega,fun _=>?_⟩,fun h64=>⟨by omega,fun _=>?_⟩⟩
  ·rw [Vo _ _ (kq _ _) (by omega),dI,decide_eq_true (show(127 - k)%64<64 by omega),Bool.true_and,show 64+(127 - k)%64=127 - k by omega];refine⟨fun hb=>?_,fun hb=>?_⟩
   ·intro _ _ _;refine⟨by omega,fun _=>⟨by omega,fun _=>⟨_,_,_,rfl,rfl,rfl,⟨k+1,Is,?_,?_,?_⟩,?_⟩⟩⟩
    all_goals simp only [ah,adx]
    ·rw [fv fun i _=>on hb i]
    ·rw [fv fun i _=>on hb (64+i)]
    ·omega
    ·omega
   ·refine⟨by omega,fun _=>⟨by omega,fun _=>⟨_,_,_,rfl,rfl,rfl,⟨k+1,Is,?_,?_,?_⟩,?_⟩⟩⟩
    all_goals simp only [ah,adx]
    ·rw [fv fun i _=>off hb i]
    ·rw [fv fun i _=>off hb (64+i)]
    ·omega
    ·omega
  ·rw [Vo _ _ (kq _ _) (by omega),dI,decide_eq_true (show(127 - k)%64<64 by omega),Bool.true_and,show(127 - k)%64=127 - k by omega];refine⟨fun hb=>?_,fun hb=>?_⟩
   ·intro _ _ _;refine⟨by omega,fun _=>⟨by omega,fun _=>⟨_,_,_,rfl,rfl,rfl,⟨k+1,Is,?_,?_,?_⟩,?_⟩⟩⟩
    all_goals simp only [ah,adx]
    ·rw [fv fun i _=>on hb i]
    ·rw [fv fun i _=>on hb (64+i)]
    ·omega
    ·omega
   ·refine⟨by omega,fun _=>⟨by omega,fun _=>⟨_,_,_,rfl,rfl,rfl,⟨k+1,Is,?_,?_,?_⟩,?_⟩⟩⟩
    all_goals simp only [ah,adx]
    ·rw [fv fun i _=>off hb i]
    ·rw [fv fun i _=>off hb (64+i)]
    ·omega
    ·omega
 ·obtain rfl:k=128:=by omega
  exact GN fun i hi=>SF p q i hi
end Go.RX.Fh

namespace Go.Gh
def ky(T:Nat→Nat)(len r j:Nat):Nat:=if 16*r+j<len then T (16*r+j)else 0
def gh(H:Nat→Bool)(T:Nat→Nat)(len:Nat):Nat→(Nat→Bool)
 | 0=>fun _=>false
 | r+1=>gm (add (gh H T len r) (pb (ky T len r))) H
def ku(H T:Nat→Nat)(len:Nat):Nat→Nat:=bp (gh (pb H) T len ((len+15)/16))
theorem SM(T:Nat→Nat)(hT: ∀j,T j<256)(len r j:Nat):ky T len r j<256:=by
 unfold ky;split
 ·exact hT _
 ·decide
theorem EM(H T:Nat→Nat)(len j:Nat):ku H T len j<256:=Vk _ j
end Go.Gh

namespace Go.RX.Fh
open Go Go.RX Go.Proofs Go.Ae Go.RX.Sh Go.RX.Fe Go.RX.Fg Go.Gh
theorem MR(a b:Nat):ak .tu .i64 (a:Int) (b:Int)=((min a b:Nat):Int):=by
 show(if(b:Int)<(a:Int)then(b:Int)else(a:Int))=_;split<;>omega
theorem GQ(v:V1)(H T:Nat→Nat)(hH: ∀j,H j<256)(hT: ∀j,T j<256)(len:Nat):ar adE 58 [bW H,v.v] [al true v len T] fun x hs=>x=bW (ku H T len)∧hs=[]:=by
 have h:=ar.kH (C:=Fh.cx) (aX:={i:=1,a:=2,v:=1}) (ρ:={iv:=[(len:Int)],av:=[fun j=>(H j:Nat),fun j=>(T j:Nat)],vv:=[v]}) FN qv FO Try.func58 (by constructor<;>rfl)
  (ax:=fun x _=>x=bW (ku H T len)) (args:=[.agg [.cD .u8 16 (.aO 0)],.vv 0]) (hp:=[.bu true 0 5 1 (.var 0) (Fg.cB 1)]) MD (PI adE (fun x _=>x=bW (ku H T len)) (len:Int) (fun j=>(H j:Nat)) (fun j=>(T j:Nat)) v (fun _=>LC.none)) ?_
 ·have hv:SV.vals {iv:=[(len:Int)],av:=[fun j=>(H j:Nat),fun j=>(T j:Nat)],vv:=[v]} [.agg [.cD .u8 16 (.aO 0)],.vv 0]=[bW H,v.v]:=by
   show [Value.agg (ads (aj .u8 16 fun j=>(H j:Nat)) []).toArray,_]=_;rw [adG,List.append_nil];rfl
  rw [hv]at h;exact ar.post h fun x hs hq=>⟨[],bU.sub (List.nil_sublist _),hq,rfl⟩
 unfold Ic;intro _ _;refine⟨fun x hs=>x=lu (pb H)∧hs=[],by rw [dN (B:=H) fun j _=>rfl];exact EK H hH,?_⟩;rintro x hs ⟨rfl,rfl⟩;refine⟨_,_,rfl,rfl,?_⟩;intro _ _;refine⟨by omega,fun _=>?_⟩;intro v1;refine⟨fun e=> ∃r:Nat,16*r<len+16∧e.i.getD 0 0=(num (gh (pb H) T len r) 64:Nat)∧e.i.getD 1 0=(num (fun i=>gh (pb H) T len r (64+i)) 64:Nat)∧e.i.getD 2 0=((len - 16*r:Nat):Int)∧∀j,j<len - 16*r→(e.a.getD 0 fun _=>0) j=(T (16*r+j):Nat),
  fun e=>(e.i.getD 2 0).toNat,⟨v1,0,0,len,fun j=>(T j:Nat),rfl,rfl,rfl,fun _ _=>rfl,rfl,rfl,0,by omega,?_,?_,?_,?_⟩,?_⟩
 ·show(0:Int)=((num (fun _=>false) 64:Nat):Int);decide
 ·show(0:Int)=((num (fun _=>false) 64:Nat):Int);decide
 ·simp
 ·intro j _;simp
 rintro v2 x3 x4 x5 A2 ⟨r,hr,h3,h4,h5,hA⟩;simp only [ah,adx]at h3 h4 h5 hA;subst h3 h4 h5;rw [show ak .tu .i64 ((len - 16*r:Nat):Int) 16=((min (len - 16*r) 16:Nat):Int)from MR _ 16];refine⟨by omega,fun _=>⟨fun bP=>?_,fun ig=>?_⟩⟩
 ·intro _;have hB:=SM T hT len r;refine⟨by omega,fun _=>⟨by omega,fun _=>⟨fun x hs=>x=lu (pb (ky T len r))∧hs=[],?_,?_⟩⟩⟩
  ·rw [dN (B:=ky T len r)]
   ·exact EK _ hB
   ·intro j hj;rw [Int.toNat_natCast];unfold aA ky;by_cases Tw:16*r+j<len
    ·rw [if_pos (by omega),if_pos Tw,Nat.sub_zero,hA j (by omega)]
    ·rw [if_neg (by omega),if_neg Tw];rfl
  rintro x hs ⟨rfl,rfl⟩;refine⟨_,_,rfl,rfl,?_⟩;intro _ _ _;have hx: ∀a b:Nat→Bool,ak .aD .u64 ((num a 64:Nat):Int) ((num b 64:Nat):Int)=((num (fun i=>a i ^^ b i) 64:Nat):Int):=fun a b=>by rw [Mr (kq _ _) (kq _ _),Ip]
  rw [hx,hx];refine⟨fun x hs=>x=lu (gh (pb H) T len (r+1))∧hs=[],EL (add (gh (pb H) T len r) (pb (ky T len r))) (pb H),?_⟩;rintro x hs ⟨rfl,rfl⟩;refine⟨_,_,rfl,rfl,?_⟩
  iterate 3 refine⟨by omega,fun _=>?_⟩
  intro v3;refine⟨v3,_,_,((len - 16*(r+1):Nat):Int),_,rfl,rfl,by omega,fun _ _=>rfl,rfl,rfl,⟨r+1,by omega,rfl,rfl,rfl,?_⟩,?_⟩
  ·intro j hj;simp only [ah];unfold aE;rw [Int.toNat_natCast,hA _ (by omega)];congr 2;omega
  ·simp only [ah,adx];omega
 ·refine⟨fun x hs=>x=bW (ku H T len)∧hs=[],?_,?_⟩
  ·have e:ku H T len=bp (gh (pb H) T len r):=by
    unfold ku;rw [show(len+15)/16=r by omega]
   rw [e];exact pF _
  rintro x hs ⟨rfl,rfl⟩;refine⟨fun j=>(ku H T len j:Nat),by unfold bW;rw [adG,List.append_nil],rfl,?_⟩;exact dN fun j _=>rfl
end Go.RX.Fh

namespace Go.RX.Fg
open Go Go.RX Go.Proofs Go.Ae
theorem or8{a b:Nat}(ha:a<256)(hb:b<256):ak .bJ .u8 (a:Int) (b:Int)=((a|||b:Nat):Int):=by
 show ae .u8 ((BitVec.ofInt 8 (a:Int)|||BitVec.ofInt 8 (b:Int)).toNat:Int)=_;rw [Sh.wrap_u8,BitVec.toNat_or,Sh.cj,Sh.cj,adQ ha,adQ hb,adQ (Nat.or_lt_two_pow (n:=8) ha hb)]
theorem bU.MS{a:List HP}{x:HP}(i:Nat)(h:a[i]? =some x):bU a [x]:=by
 obtain⟨hl,he⟩:=adu.1 h;refine bU.sub ?_;rw [List.singleton_sublist];exact he▸List.getElem_mem hl
def aL(x:Value)(n:Nat)(T:Nat→Nat):HP:=au false 5 1 x n (aK n [aJ .u8 1 fun j=>(T j:Nat)])
theorem ay.bytes{v:V1}{n:Nat}{T:Nat→Nat}:ay [al true v n T] (aL v.v n T):=ay.own
theorem ay.view{v:V1}{n:Nat}{T:Nat→Nat}:ay [al false v n T] (aL v.v n T):=ay.self rfl
theorem EN(k:IntKind)(n lo m:Nat)(f:Nat→Int)(h:lo+m≤n):((aK n [aJ k 1 f]).drop (lo*1)).take (m*1)=aK m [aJ k 1 fun j=>f (lo+j)]:=by
 rw [gl,gl,Nat.mul_one,Nat.mul_one,qA,dq k (n - lo) m _ (by omega)]
theorem ay.part{B:List HP}{x:Value}{n lo hi:Nat}{mx:Option Nat}{T:Nat→Nat}(hb:ay B (aL x n T))(h1:lo≤hi)(h2:hi≤n)(h3: ∀m,mx=some m→hi≤m):
  ay B (aL (aC 1 x lo hi mx) (hi - lo) fun j=>T (lo+j)):=by
 have:=ay.sub (lo:=lo) (hi:=hi) (mx:=mx) hb h1 h2 h3;rw [EN .u8 n lo (hi - lo) _ (by omega)]at this;exact this
theorem n9{x:Value}{n:Nat}{T T':Nat→Nat}(h: ∀j,j<n→T j=T' j):aL x n T=aL x n T':=by
 unfold aL;rw [cm fun j hj=>by rw [h j hj]]
theorem ay.block{b n m:Nat}{wr:Bool}{A:Nat→Int}{T:Nat→Nat}(hA: ∀j,j<n→A j=(T j:Nat))(hm:n≤m):ay [aq b wr (aj .u8 n A)] (aL (.slice (some ⟨b,0,none⟩) n m) n T):=by
 have:=ay.row (t:=5) (b:=b) (wr:=wr) (lo:=0) (n:=n) (m:=m) (cs:=aj .u8 n A) (by simp [aF]) hm;rw [List.drop_zero,dq .u8 n n _ (Nat.le_refl _)]at this;unfold aL;rw [gl,bA .u8 n fun j hj=>(hA j hj).symm];exact this
theorem fY{B:List HP}{x:Value}(hx:x.oneCell'=true)(b lb:Nat)(v:V1)(n:Nat)(hn:0<n)(KX:n<100)(K C T:Nat→Nat)(hK: ∀j,K j<256)(hC: ∀j,C j<256)(hT: ∀j,T j<256)(len:Nat)(hl:len≤140737488355328)(hb:ay B (aL x len T)):
  ar adE 39 [.pointer (some ⟨b,0,none⟩),bW C,.slice (some ⟨lb,0,none⟩) 1 1] ([Fe.ct b v,Fe.eH v n K,aq lb true [x]]++B) fun r hs=> ∃o:V1,r= .tuple #[o.v,.int .i64 0]∧hs=[Fe.ct b v,Fe.eH v n K,aq lb true [x]]++B++[al true o len (eu n K C T)]:=by
 have h:=GL b lb v ⟨x,hx⟩ n hn KX K C T hK hC hT len hl;have h2:ar adE 39 [.pointer (some ⟨b,0,none⟩),bW C,.slice (some ⟨lb,0,none⟩) 1 1] ([Fe.ct b v,Fe.eH v n K,aq lb true [x]]++[aL x len T]) fun r hs=> ∃nw,(∃o:V1,r= .tuple #[o.v,.int .i64 0]∧nw=[al true o len (eu n K C T)])∧hs=[Fe.ct b v,Fe.eH v n K,aq lb true [x]]++nw:=by
  refine ar.post h ?_;rintro r hs ⟨o,hr,rfl⟩;exact⟨_,bU.sub (by repeat (first | exact List.Sublist.slnil | apply List.Sublist.cons_cons | apply List.Sublist.cons)),_,⟨o,hr,rfl⟩,rfl⟩
 refine ar.post (ar.iV h2 ?_ ?_ ?_) ?_
 ·intro h hh;simp only [adW,adP,or_false]at hh;rcases hh with rfl | rfl | rfl<;>rfl
 ·rintro v nw ⟨o,_,rfl⟩ h hh;simp only [adW,adP,or_false]at hh;subst hh;rfl
 ·intro h hh;simp only [adW,adP,or_false]at hh;subst hh;exact hb
 ·rintro r hs ⟨nw,⟨o,hr,rfl⟩,rfl⟩;exact⟨_,bU.refl _,o,hr,rfl⟩
end Go.RX.Fg

namespace Go.Gc
open Go.Ae Go.Gh
def dT(N:Nat→Nat)(c j:Nat):Nat:=if j<12 then N j else if j=15 then c else 0
theorem iX{N:Nat→Nat}(hN: ∀j,N j<256){c:Nat}(hc:c<256)(j:Nat):dT N c j<256:=by
 unfold dT;split
 ·exact hN j
 split
 ·exact hc
 ·decide
def eE(n:Nat):Nat:=(16 - n%16)%16
theorem Iu(n:Nat):eE n<16:=Nat.mod_lt _ (by decide)
def P3(n1 n2 k:Nat):Nat:=if k<8 then n1*8%2^64/2^(56 - 8*k)%256 else n2*8%2^64/2^(56 - 8*(k - 8))%256
theorem P4(n1 n2 k:Nat):P3 n1 n2 k<256:=by
 unfold P3;split<;>exact Nat.mod_lt _ (by decide)
def vX(n1:Nat)(A:Nat→Nat)(n2:Nat)(T:Nat→Nat)(j:Nat):Nat:=
 if j<n1 then A j
 else if j<n1+eE n1 then 0
 else if j<n1+eE n1+n2 then T (j - (n1+eE n1))
 else if j<n1+eE n1+n2+eE n2 then 0
 else P3 n1 n2 (j - (n1+eE n1+n2+eE n2))
theorem SN{n1 n2:Nat}{A T:Nat→Nat}(hA: ∀j,A j<256)(hT: ∀j,T j<256)(j:Nat):vX n1 A n2 T j<256:=by
 unfold vX;split
 ·exact hA _
 split
 ·decide
 split
 ·exact hT _
 split
 ·decide
 ·exact P4 _ _ _
def J8(n1 n2:Nat):Nat:=n1+eE n1+n2+eE n2+16
def jl(n:Nat)(K N:Nat→Nat)(n1:Nat)(A:Nat→Nat)(n2:Nat)(T:Nat→Nat):Nat→Nat:=
 eu n K (dT N 1) (ku (enc n K fun _=>0) (vX n1 A n2 T) (J8 n1 n2))
theorem sG{n:Nat}{K B T:Nat→Nat}(hK: ∀j,K j<256)(hB: ∀j,B j<256)(hT: ∀j,T j<256)(j:Nat):eu n K B T j<256:=by
 unfold eu;exact Nat.xor_lt_two_pow (n:=8) (hT j) (yq n K _ hK (Cg B hB _) _)
theorem Cn{n:Nat}{K N:Nat→Nat}(hK: ∀j,K j<256)(hN: ∀j,N j<256)(n1:Nat)(A:Nat→Nat)(n2:Nat)(T:Nat→Nat)(j:Nat):jl n K N n1 A n2 T j<256:=
 sG hK (iX hN (by decide)) (EM _ _ _) j
def df(n:Nat)(K N T:Nat→Nat):Nat→Nat:=eu n K (nx (dT N 1)) T
theorem sK{n:Nat}{K N T:Nat→Nat}(hK: ∀j,K j<256)(hN: ∀j,N j<256)(hT: ∀j,T j<256)(j:Nat):df n K N T j<256:=sG hK (AK _ (iX hN (by decide))) hT j
def iY(n:Nat)(K N:Nat→Nat)(n1:Nat)(A:Nat→Nat)(n2:Nat)(T:Nat→Nat)(j:Nat):Nat:=
 if j<n2 then df n K N T j else jl n K N n1 A n2 (df n K N T) (j - n2)
theorem MT{n:Nat}{K N T:Nat→Nat}(hK: ∀j,K j<256)(hN: ∀j,N j<256)(hT: ∀j,T j<256)(n1:Nat)(A:Nat→Nat)(n2 j:Nat):iY n K N n1 A n2 T j<256:=by
 unfold iY;split
 ·exact sK hK hN hT j
 ·exact Cn hK hN _ _ _ _ _
end Go.Gc
