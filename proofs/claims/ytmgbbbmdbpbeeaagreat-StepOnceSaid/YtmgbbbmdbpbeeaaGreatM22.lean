/- Polynomials az numbers and az blocks. -/
import Derived.Test.YtmgbbbmdbpbeeaaGreatM21
open Bool renaming and_eq_true → ai
open Go.IntKind renaming wrap → ae
open Go.Proofs.Tryz renaming prog → aiT
open Int renaming toNat → ag, toNat_natCast → aiX
open List renaming append → aiL, append_eq → ajp, getD_cons_succ → aiS, getD_cons_zero → ah
open Nat renaming eq_of_testBit_eq → ajx, lt_of_lt_of_le → ai1, mod_eq_of_lt → ajm, testBit → ajJ
namespace Go.Gh
def num(p:Nat→Bool):Nat→Nat
 | 0=>0
 | n+1=>num p n+(if p n then 2^n else 0)
theorem kW(p:Nat→Bool): ∀n,num p n<2^n
 | 0=>Nat.one_pos
 | n+1=>by
  have:=kW p n;rw [num,Nat.pow_succ];split<;>omega
theorem ek(p:Nat→Bool): ∀(n i:Nat),(num p n).testBit i=(decide (i<n)&&p i)
 | 0,i=>by rw [num,Nat.zero_testBit];simp
 | n+1,i=>by
  rw [num];split
  ·rename_i hp;have h:=Nat.two_pow_add_eq_or_of_lt (kW p n) 1;rw [Nat.mul_one]at h;rw [Nat.add_comm,h,Nat.testBit_or,Nat.testBit_two_pow,ek p n i];by_cases e:n=i
   ·subst e;simp [hp]
   ·have:decide (i<n+1)=decide (i<n):=by rw [decide_eq_decide];omega
    rw [this];simp [e]
  ·rename_i hp;rw [Nat.add_zero,ek p n i];by_cases e:n=i
   ·subst e;simp [hp]
   ·have:decide (i<n+1)=decide (i<n):=by rw [decide_eq_decide];omega
    rw [this]
theorem fS{p q:Nat→Bool}{n:Nat}(h: ∀i,i<n→p i=q i):num p n=num q n:=by
 refine ajx fun i=>?_
 rw [ek,ek];by_cases hi:i<n
 ·rw [h i hi]
 ·simp [hi]
theorem tG{x n:Nat}(hx:x<2^n)(i:Nat)(hi:n≤i):x.testBit i=false:=Nat.testBit_lt_two_pow (ai1 hx (Nat.pow_le_pow_right (by decide) hi))
def rev(x:Nat):Nat:=num (fun i=>x.testBit (63 - i)) 64
def CG(m k x:Nat):Nat:=((x >>> k) &&& m)|||((x &&& m)*2^k%2^64)
def flip(k i:Nat):Nat:=if i/k%2=0 then i+k else i - k
theorem lZ(m k x:Nat)(hx:x<2^64):CG m k x<2^64:=by
 unfold CG;refine Nat.or_lt_two_pow (Nat.lt_of_le_of_lt Nat.and_le_left ?_) (Nat.mod_lt _ (by decide));rw [Nat.shiftRight_eq_div_pow];exact Nat.lt_of_le_of_lt (Nat.div_le_self _ _) hx
theorem qN{m k x:Nat}(hk:k=1∨k=2∨k=4∨k=8∨k=16∨k=32)(hm: ∀i:Fin 64,m.testBit i.val=decide (i.val/k%2=0))(_:x<2^64)(i:Nat)(hi:i<64):
  (CG m k x).testBit i=x.testBit (flip k i):=by
 unfold CG flip;rw [Nat.testBit_or,Nat.testBit_and,Nat.testBit_shiftRight,hm ⟨i,hi⟩,Nat.testBit_mod_two_pow,←Nat.shiftLeft_eq,Nat.testBit_shiftLeft,Nat.testBit_and];simp only [hi,decide_true,Bool.true_and];by_cases h:i/k%2=0
 ·rw [if_pos h];have h2:(decide (i≥k)&&(x.testBit (i - k)&&m.testBit (i - k)))=false:=by
   by_cases IK:i≥k
   ·rw [hm ⟨i - k,by omega⟩];have: ¬(i - k)/k%2=0:=by rcases hk with rfl | rfl | rfl | rfl | rfl | rfl<;>omega
    simp [this]
   ·simp [IK]
  rw [h2];simp [h,Nat.add_comm]
 ·rw [if_neg h];have IK:i≥k:=by rcases hk with rfl | rfl | rfl | rfl | rfl | rfl<;>omega
  have h3:(i - k)/k%2=0:=by rcases hk with rfl | rfl | rfl | rfl | rfl | rfl<;>omega
  rw [hm ⟨i - k,by omega⟩];simp [h,IK,h3]
theorem YG: ∀i:Fin 64,ajJ 6148914691236517205 i.val=decide (i.val/1%2=0):=by decide+kernel
theorem YH: ∀i:Fin 64,ajJ 3689348814741910323 i.val=decide (i.val/2%2=0):=by decide+kernel
theorem YI: ∀i:Fin 64,ajJ 1085102592571150095 i.val=decide (i.val/4%2=0):=by decide+kernel
theorem YJ: ∀i:Fin 64,ajJ 71777214294589695 i.val=decide (i.val/8%2=0):=by decide+kernel
theorem Vf: ∀i:Fin 64,ajJ 281470681808895 i.val=decide (i.val/16%2=0):=by decide+kernel
theorem Vg: ∀i:Fin 64,ajJ 4294967295 i.val=decide (i.val/32%2=0):=by decide+kernel
theorem YK: ∀i:Fin 64,flip 1 (flip 2 (flip 4 (flip 8 (flip 16 (flip 32 i.val)))))=63 - i.val:=by decide+kernel
theorem tH: ∀i:Fin 64,flip 32 i.val<64∧flip 16 i.val<64∧flip 8 i.val<64∧flip 4 i.val<64∧flip 2 i.val<64:=by decide+kernel
theorem Hw(x:Nat)(hx:x<2^64):(x >>> 32)|||(x*2^32%2^64)=CG 4294967295 32 x:=by
 unfold CG;have h1:x >>> 32 &&& 4294967295=x >>> 32:=by
  rw [show(4294967295:Nat)=2^32 - 1 by decide,Nat.and_two_pow_sub_one_eq_mod,ajm];rw [Nat.shiftRight_eq_div_pow];omega
 have h2:(x &&& 4294967295)*2^32%2^64=x*2^32%2^64:=by
  rw [show(4294967295:Nat)=2^32 - 1 by decide,Nat.and_two_pow_sub_one_eq_mod];omega
 rw [h1,h2]
theorem rev_eq(x:Nat)(hx:x<2^64):CG 4294967295 32 (CG 281470681808895 16 (CG 71777214294589695 8 (CG 1085102592571150095 4 (CG 3689348814741910323 2 (CG 6148914691236517205 1 x)))))=rev x:=by
 have l1:=lZ 6148914691236517205 1 x hx;have l2:=lZ 3689348814741910323 2 _ l1;have l4:=lZ 1085102592571150095 4 _ l2;have l8:=lZ 71777214294589695 8 _ l4;have l16:=lZ 281470681808895 16 _ l8;have l32:=lZ 4294967295 32 _ l16;refine ajx fun i=>?_
 unfold rev;rw [ek];by_cases hi:i<64
 ·have f1:=(tH ⟨i,hi⟩).1;have f2:=(tH ⟨_,f1⟩).2.1;have f3:=(tH ⟨_,f2⟩).2.2.1;have f4:=(tH ⟨_,f3⟩).2.2.2.1;have f5:=(tH ⟨_,f4⟩).2.2.2.2;rw [qN (by decide) Vg l16 i hi,qN (by decide) Vf l8 _ f1,qN (by decide) YJ l4 _ f2,qN (by decide) YI l2 _ f3,qN (by decide) YH l1 _ f4,qN (by decide) YG hx _ f5,YK ⟨i,hi⟩];simp [hi]
 ·rw [tG l32 i (by omega)];simp [hi]
def pb(B:Nat→Nat):Nat→Bool:=fun i=>(B (i/8)).testBit (7 - i%8)
def bp(p:Nat→Bool):Nat→Nat:=fun j=>num (fun k=>p (8*j+(7 - k))) 8
def ni(f:Nat→Nat):Nat→Nat
 | 0=>0
 | n+1=>ni f n*256+f n
theorem qb(f:Nat→Nat)(hf: ∀j,f j<256): ∀n,ni f n<256^n
 | 0=>Nat.one_pos
 | n+1=>by
  have:=qb f hf n;have:=hf n;rw [ni,Nat.pow_succ];omega
theorem CH(f:Nat→Nat)(hf: ∀j,f j<256): ∀(n i:Nat),i<8*n→(ni f n).testBit (8*n - 1 - i)=(f (i/8)).testBit (7 - i%8)
 | 0,i,h=>by omega
 | n+1,i,h=>by
  have hb:=hf n;rw [ni,Nat.mul_comm,show(256:Nat)=2^8 by decide,Nat.testBit_two_pow_mul_add _ (by omega)];split
  ·rename_i h8;rw [show i/8=n by omega,show 7 - i%8=8*(n+1) - 1 - i by omega]
  ·rename_i h8;rw [show 8*(n+1) - 1 - i - 8=8*n - 1 - i by omega];exact CH f hf n i (by omega)
theorem RN(B:Nat→Nat)(hB: ∀j,B j<256)(o:Nat):rev (ni (fun j=>B (o+j)) 8)=num (fun i=>pb B (8*o+i)) 64:=by
 unfold rev;refine fS fun i hi=>?_
 have:=CH (fun j=>B (o+j)) (fun j=>hB _) 8 i (by omega);rw [show 8*8 - 1 - i=63 - i by omega]at this;rw [this];unfold pb;rw [show(8*o+i)/8=o+i/8 by omega,show(8*o+i)%8=i%8 by omega]
theorem ER(p:Nat→Bool)(o j:Nat)(hj:j<8):rev (num (fun i=>p (8*o+i)) 64) >>> (56 - 8*j)%256=bp p (o+j):=by
 refine ajx fun k=>?_
 unfold rev bp;rw [show(256:Nat)=2^8 by decide,Nat.testBit_mod_two_pow,Nat.testBit_shiftRight,ek,ek,ek];by_cases hk:k<8
 ·rw [show 8*o+(63 - (56 - 8*j+k))=8*(o+j)+(7 - k) by omega];simp [hk,show 56 - 8*j+k<64 by omega];omega
 ·simp [hk]
theorem YL(p:Nat→Bool)(j:Nat):bp p j<256:=kW _ 8
theorem JA(p q:Nat→Bool)(n:Nat):num p n^^^num q n=num (fun i=>p i ^^ q i) n:=by
 refine ajx fun i=>?_
 rw [Nat.testBit_xor,ek,ek,ek];by_cases h:i<n<;>simp [h]
theorem JB(i:Nat):ajJ 1 i=decide (i=0):=by
 have:=Nat.testBit_two_pow (n:=0) (m:=i);rw [Nat.pow_zero]at this;rw [this];simp [eq_comm]
theorem JC(p:Nat→Bool):num p 64 >>> 63=if p 63 then 1 else 0:=by
 refine ajx fun i=>?_
 rw [Nat.testBit_shiftRight,ek];by_cases h:i=0
 ·subst h;cases p 63<;>simp
 ·rw [show decide (63+i<64)=false by simp;omega];split
  ·rw [JB];simp [h]
  ·simp
theorem Vh: ∀i:Fin 64,ajJ 135 i.val=(decide (i.val=0)||decide (i.val=1)||decide (i.val=2)||decide (i.val=7)):=by decide+kernel
theorem Vi(f:Nat→Bool):(num f 64*2^1%2^64)^^^((num (fun i=>f (64+i)) 64 >>> 63)*135%2^64)=num (xt f) 64:=by
 rw [JC];refine ajx fun i=>?_
 rw [Nat.testBit_xor,ek];by_cases hi:i<64
 ·rw [Nat.testBit_mod_two_pow,←Nat.shiftLeft_eq,Nat.testBit_shiftLeft,ek];have acg:((if f (64+63)=true then 1 else 0)*135%2^64).testBit i=(f 127&&ajJ 135 i):=by
   cases f 127<;>simp
  rw [acg,Vh ⟨i,hi⟩];unfold xt;by_cases h0:i=0
  ·subst h0;simp
  ·simp [hi,h0,show i≥1 by omega,show i - 1<64 by omega]
 ·rw [tG (n:=64) (Nat.mod_lt _ (by decide)) i (by omega),tG (n:=64) (Nat.mod_lt _ (by decide)) i (by omega)];simp [hi]
theorem RO(f:Nat→Bool):(num (fun i=>f (64+i)) 64*2^1%2^64)|||(num f 64 >>> 63)=num (fun i=>xt f (64+i)) 64:=by
 rw [JC];refine ajx fun i=>?_
 rw [Nat.testBit_or,ek];have h1:(if f 63=true then 1 else 0:Nat).testBit i=(f 63&&decide (i=0)):=by
  cases f 63<;>simp [JB]
 rw [h1];by_cases hi:i<64
 ·rw [Nat.testBit_mod_two_pow,←Nat.shiftLeft_eq,Nat.testBit_shiftLeft,ek];unfold xt;by_cases h0:i=0
  ·subst h0;simp
  ·simp [hi,h0,show i≥1 by omega,show i - 1<64 by omega,show 64+i - 1=64+(i - 1) by omega,show¬64+i=1 by omega,show¬64+i=2 by omega,show¬64+i=7 by omega]
 ·rw [tG (n:=64) (Nat.mod_lt _ (by decide)) i (by omega)];simp [hi,show¬i=0 by omega]
theorem RP(x s:Nat):(x >>> s &&& 1)=1↔x.testBit s=true:=by
 rw [ajJ,Nat.and_comm];have h:1 &&& x >>> s=x >>> s%2:=Nat.one_and_eq_mod_two _;rw [h];have:=Nat.mod_lt (x >>> s) (show 0<2 by decide);constructor
 ·intro e;rw [e];rfl
 ·intro e;have:x >>> s%2≠0:=by simpa using e
  omega
end Go.Gh

namespace Go.RX.Fh
open Go Go.RX Go.Proofs Go.Ae Go.RX.Sh Go.RX.Fe Go.RX.Fg Go.Gh
theorem Hx{a b:Nat}(ha:a<2^64)(hb:b<2^64):ak .bC .u64 (a:Int) (b:Int)=((a|||b:Nat):Int):=by
 show ae .u64 ((BitVec.ofInt 64 (a:Int)|||BitVec.ofInt 64 (b:Int)).toNat:Int)=_;rw [wrap_u64,BitVec.toNat_or,cm,cm,ajm ha,ajm hb,ajm (Nat.or_lt_two_pow ha hb)]
theorem tJ(a n:Nat)(hn:n≤64):ak .shl .u64 (a:Int) (n:Int)=((a*2^n%2^64:Nat):Int):=by
 show ae .u64 ((a:Int)*2^(min (ag (n:Int)) 64))=_;rw [show min (ag (n:Int)) 64=n by rw [aiX];omega,show((a:Int)*2^n)=((a*2^n:Nat):Int) by rw [Int.natCast_mul,Int.natCast_pow];rfl,wrap_u64]
theorem CI{a n:Nat}(ha:a<2^64):a >>> n<2^64:=by
 rw [Nat.shiftRight_eq_div_pow];exact Nat.lt_of_le_of_lt (Nat.div_le_self _ _) ha
theorem OB{m k x:Nat}(hx:x<2^64)(hm:m<2^64)(hk:k≤64):ak .bC .u64 (ak .aM .u64 (ak .shr .u64 (x:Int) (k:Int)) (m:Int)) (ak .shl .u64 (ak .aM .u64 (x:Int) (m:Int)) (k:Int))=((CG m k x:Nat):Int):=by
 rw [fJ .u64 x k hk,Jt (CI hx) hm,Jt hx hm,tJ _ _ hk,Hx (Nat.lt_of_le_of_lt Nat.and_le_right hm) (Nat.mod_lt _ (by decide))];rfl
theorem ach{x:Nat}(hx:x<2^64):ak .bC .u64 (ak .aM .u64 (ak .shr .u64 (x:Int) 1) 6148914691236517205) (ak .shl .u64 (ak .aM .u64 (x:Int) 6148914691236517205) 1)=((CG 6148914691236517205 1 x:Nat):Int):=OB hx (by decide) (by decide)
theorem aci{x:Nat}(hx:x<2^64):ak .bC .u64 (ak .aM .u64 (ak .shr .u64 (x:Int) 2) 3689348814741910323) (ak .shl .u64 (ak .aM .u64 (x:Int) 3689348814741910323) 2)=((CG 3689348814741910323 2 x:Nat):Int):=OB hx (by decide) (by decide)
theorem acj{x:Nat}(hx:x<2^64):ak .bC .u64 (ak .aM .u64 (ak .shr .u64 (x:Int) 4) 1085102592571150095) (ak .shl .u64 (ak .aM .u64 (x:Int) 1085102592571150095) 4)=((CG 1085102592571150095 4 x:Nat):Int):=OB hx (by decide) (by decide)
theorem ack{x:Nat}(hx:x<2^64):ak .bC .u64 (ak .aM .u64 (ak .shr .u64 (x:Int) 8) 71777214294589695) (ak .shl .u64 (ak .aM .u64 (x:Int) 71777214294589695) 8)=((CG 71777214294589695 8 x:Nat):Int):=OB hx (by decide) (by decide)
theorem YM{x:Nat}(hx:x<2^64):ak .bC .u64 (ak .aM .u64 (ak .shr .u64 (x:Int) 16) 281470681808895) (ak .shl .u64 (ak .aM .u64 (x:Int) 281470681808895) 16)=((CG 281470681808895 16 x:Nat):Int):=OB hx (by decide) (by decide)
theorem YN{x:Nat}(hx:x<2^64):ak .bC .u64 (ak .shr .u64 (x:Int) 32) (ak .shl .u64 (x:Int) 32)=((CG 4294967295 32 x:Nat):Int):=by
 have h1:ak .shr .u64 (x:Int) 32=((x >>> 32:Nat):Int):=fJ .u64 x 32 (by decide);have h2:ak .shl .u64 (x:Int) 32=((x*2^32%2^64:Nat):Int):=tJ x 32 (by decide);rw [h1,h2,Hx (CI hx) (Nat.mod_lt _ (by decide)),Hw x hx]
theorem qO(x:Nat)(hx:x<2^64):ax aiT 146 [.int .u64 (x:Int)] [] fun r hs=>r= .int .u64 (rev x:Nat)∧hs=[]:=by
 refine ax.oG (C:=Fh.cx) (aV:={i:=1}) (ρ:={iv:=[(x:Int)]}) Ew pZ Ex Tryz.func146 (by constructor<;>rfl) (fun r=>r= .int .u64 (rev x:Nat))
  (args:=[.int .u64 (.var 0)]) Rl (U3 aiT (fun r _=>r= .int .u64 (rev x:Nat)) (x:Int) (fun _=>LC.none)) ?_
 unfold N8;have l1:=lZ 6148914691236517205 1 x hx;have l2:=lZ 3689348814741910323 2 _ l1;have l4:=lZ 1085102592571150095 4 _ l2;have l8:=lZ 71777214294589695 8 _ l4;have l16:=lZ 281470681808895 16 _ l8;rw [ach hx,aci l1,acj l2,ack l4,YM l8,YN l16,rev_eq x hx]
def l_(p:Nat→Bool):Value:= .agg #[.int .u64 (num p 64:Nat),.int .u64 (num (fun i=>p (64+i)) 64:Nat)]
theorem P_{a b:Nat}(ha:a<2^56)(hb:b<256):ak .bC .u64 (ak .shl .u64 (a:Int) 8) (ae .u64 (b:Int))=((a*256+b:Nat):Int):=by
 have h2:ak .shl .u64 (a:Int) 8=((a*2^8%2^64:Nat):Int):=tJ a 8 (by decide);rw [h2,wrap_u64,Hx (Nat.mod_lt _ (by decide)) (Nat.mod_lt _ (by decide)),ajm (show a*2^8<2^64 by omega),ajm (show b<2^64 by omega),Nat.mul_comm a,←Nat.two_pow_add_eq_or_of_lt (by omega),Nat.mul_comm]
theorem wd0{b:Nat}(hb:b<256):ak .bC .u64 0 (ae .u64 (b:Int))=((b:Nat):Int):=by
 rw [wrap_u64,ajm (show b<2^64 by omega)];have:=Hx (a:=0) (b:=b) (by decide) (by omega);rw [Nat.zero_or]at this;exact this
theorem wd8(f:Nat→Nat)(hf: ∀j,f j<256):
  ak .bC .u64 (ak .shl .u64 (ak .bC .u64 (ak .shl .u64 (ak .bC .u64 (ak .shl .u64 (ak .bC .u64 (ak .shl .u64 (ak .bC .u64 (ak .shl .u64 (ak .bC .u64 (ak .shl .u64 (ak .bC .u64 (ak .shl .u64 (ak .bC .u64 0 (ae .u64 (f 0:Nat))) 8) (ae .u64 (f 1:Nat))) 8) (ae .u64 (f 2:Nat))) 8) (ae .u64 (f 3:Nat))) 8) (ae .u64 (f 4:Nat))) 8) (ae .u64 (f 5:Nat))) 8) (ae .u64 (f 6:Nat))) 8) (ae .u64 (f 7:Nat))=((ni f 8:Nat):Int):=by
 have h0:=hf 0;have h1:=hf 1;have h2:=hf 2;have h3:=hf 3;have h4:=hf 4;have h5:=hf 5;have h6:=hf 6;have h7:=hf 7;rw [wd0 h0,P_ (by omega) h1,P_ (by omega) h2,P_ (by omega) h3,P_ (by omega) h4,P_ (by omega) h5,P_ (by omega) h6,P_ (by omega) h7];simp only [ni,Nat.zero_mul,Nat.zero_add]
theorem ES(B:Nat→Nat)(hB: ∀j,B j<256):ax aiT 131 [bY B] [] fun x hs=>x=l_ (pb B)∧hs=[]:=by
 have h:=ax.oG (C:=Fh.cx) (aV:={a:=1}) (ρ:={av:=[fun j=>(B j:Nat)]}) Ew pZ Ex Tryz.func131 (by constructor<;>rfl) (fun x=>x=l_ (pb B))
  (args:=[.agg [.b_ .u8 16 (.aN 0)]]) U4 (Yn aiT (fun x _=>x=l_ (pb B)) (fun j=>(B j:Nat)) (fun _=>LC.none)) ?_
 ·have hv:SV.bH {av:=[fun j=>(B j:Nat)]} [.agg [.b_ .u8 16 (.aN 0)]]=[bY B]:=by
   show [Value.agg (aiL (aj .u8 16 fun j=>(B j:Nat)) []).toArray]=_;rw [ajp,List.append_nil];rfl
  rw [hv]at h;exact h
 unfold TL;intro _ _ _;have w0:=wd8 (fun j=>B (8*0+j)) fun j=>hB _
 have w1:=wd8 (fun j=>B (8*1+j)) fun j=>hB _
 have l0:ni (fun j=>B (8*0+j)) 8<2^64:=qb _ (fun j=>hB _) 8;have l1:ni (fun j=>B (8*1+j)) 8<2^64:=qb _ (fun j=>hB _) 8;simp only [Nat.mul_zero,Nat.mul_one,Nat.zero_add,Nat.reduceAdd]at w0 w1 l0 l1;rw [w0,w1];refine⟨_,qO _ l0,?_⟩;rintro x hs ⟨rfl,rfl⟩;refine⟨_,rfl,rfl,_,qO _ l1,?_⟩;rintro x hs ⟨rfl,rfl⟩;refine⟨_,rfl,rfl,?_⟩;have r0:=RN B hB 0;have r1:rev (ni (fun j=>B (8+j)) 8)=num (fun i=>pb B (64+i)) 64:=by
  have:=CH (fun j=>B (8+j)) (fun j=>hB _) 8;unfold rev;refine fS fun i hi=>?_
  have:=this i (by omega);rw [show 8*8 - 1 - i=63 - i by omega]at this;rw [this];unfold pb;rw [show(64+i)/8=8+i/8 by omega,show(64+i)%8=i%8 by omega]
 simp only [Nat.mul_zero,Nat.zero_add]at r0;rw [r0,r1];rfl
open Go Go.RX Go.Proofs Go.Ae Go.RX.Sh Go.RX.Fe Go.RX.Fg Go.Gh
theorem TP(x s:Nat)(hs:s≤64):ae .u8 (ak .shr .u64 (x:Int) (s:Int))=((x >>> s%256:Nat):Int):=by
 rw [fJ .u64 x s hs,wrap_u8]
theorem kD(p:Nat→Bool)(j:Nat)(hj:j<8)(s:Int)(hs:((56 - 8*j:Nat):Int)=s):ae .u8 (ak .shr .u64 ((rev (num p 64):Nat):Int) s)=((bp p j:Nat):Int):=by
 subst hs;rw [TP _ _ (by omega)];have:=ER p 0 j hj;simp only [Nat.mul_zero,Nat.zero_add]at this;rw [this]
theorem iZ(p:Nat→Bool)(j:Nat)(hj:j<8)(s:Int)(hs:((56 - 8*j:Nat):Int)=s):ae .u8 (ak .shr .u64 ((rev (num (fun i=>p (64+i)) 64):Nat):Int) s)=((bp p (8+j):Nat):Int):=by
 subst hs;rw [TP _ _ (by omega)];have:=ER p 8 j hj;rw [show(fun i=>p (8*8+i))=fun i=>p (64+i)from rfl]at this;rw [this]
theorem Lp(p:Nat→Bool):Value.agg #[.int .u8 (ae .u8 (ak .shr .u64 ((rev (num p 64):Nat):Int) 56)),.int .u8 (ae .u8 (ak .shr .u64 ((rev (num p 64):Nat):Int) 48)),.int .u8 (ae .u8 (ak .shr .u64 ((rev (num p 64):Nat):Int) 40)),.int .u8 (ae .u8 (ak .shr .u64 ((rev (num p 64):Nat):Int) 32)),.int .u8 (ae .u8 (ak .shr .u64 ((rev (num p 64):Nat):Int) 24)),.int .u8 (ae .u8 (ak .shr .u64 ((rev (num p 64):Nat):Int) 16)),.int .u8 (ae .u8 (ak .shr .u64 ((rev (num p 64):Nat):Int) 8)),.int .u8 (ae .u8 (ak .shr .u64 ((rev (num p 64):Nat):Int) 0)),.int .u8 (ae .u8 (ak .shr .u64 ((rev (num (fun i=>p (64+i)) 64):Nat):Int) 56)),.int .u8 (ae .u8 (ak .shr .u64 ((rev (num (fun i=>p (64+i)) 64):Nat):Int) 48)),.int .u8 (ae .u8 (ak .shr .u64 ((rev (num (fun i=>p (64+i)) 64):Nat):Int) 40)),.int .u8 (ae .u8 (ak .shr .u64 ((rev (num (fun i=>p (64+i)) 64):Nat):Int) 32)),.int .u8 (ae .u8 (ak .shr .u64 ((rev (num (fun i=>p (64+i)) 64):Nat):Int) 24)),.int .u8 (ae .u8 (ak .shr .u64 ((rev (num (fun i=>p (64+i)) 64):Nat):Int) 16)),.int .u8 (ae .u8 (ak .shr .u64 ((rev (num (fun i=>p (64+i)) 64):Nat):Int) 8)),.int .u8 (ae .u8 (ak .shr .u64 ((rev (num (fun i=>p (64+i)) 64):Nat):Int) 0))]=bY (bp p):=by
 rw [kD p 0 (by decide) 56 rfl,kD p 1 (by decide) 48 rfl,kD p 2 (by decide) 40 rfl,kD p 3 (by decide) 32 rfl,kD p 4 (by decide) 24 rfl,kD p 5 (by decide) 16 rfl,kD p 6 (by decide) 8 rfl,kD p 7 (by decide) 0 rfl,
  iZ p 0 (by decide) 56 rfl,iZ p 1 (by decide) 48 rfl,iZ p 2 (by decide) 40 rfl,iZ p 3 (by decide) 32 rfl,iZ p 4 (by decide) 24 rfl,iZ p 5 (by decide) 16 rfl,iZ p 6 (by decide) 8 rfl,iZ p 7 (by decide) 0 rfl]
 unfold bY;generalize bp p=f;rfl
theorem vZ(p:Nat→Bool):ax aiT 134 [l_ p] [] fun x hs=>x=bY (bp p)∧hs=[]:=by
 have h:=ax.oG (C:=Fh.cx) (aV:={i:=2}) (ρ:={iv:=[(num p 64:Nat),(num (fun i=>p (64+i)) 64:Nat)]}) Ew pZ Ex Tryz.func134 (by constructor<;>rfl) (fun x=>x=bY (bp p))
  (args:=[NO 0]) Lh (N_ aiT (fun x _=>x=bY (bp p)) (num p 64:Nat) (num (fun i=>p (64+i)) 64:Nat) (fun _=>LC.none)) ?_
 ·exact h
 unfold np;have h0:=qO _ (kW p 64);have h1:=qO _ (kW (fun i=>p (64+i)) 64);have hf:=Lp p;intro _ _;refine⟨⟨_,h0,?_⟩,fun _=>⟨_,h0,?_⟩⟩
 ·rintro x hs ⟨rfl,rfl⟩;refine⟨_,rfl,rfl,⟨_,h1,?_⟩,fun _=>⟨_,h1,?_⟩⟩
  ·rintro x hs ⟨rfl,rfl⟩;exact⟨_,rfl,rfl,fun _ _=>hf⟩
  ·rintro x hs ⟨rfl,rfl⟩;exact⟨_,rfl,rfl,fun _=>hf⟩
 ·rintro x hs ⟨rfl,rfl⟩;refine⟨_,rfl,rfl,_,h1,?_⟩;rintro x hs ⟨rfl,rfl⟩;exact⟨_,rfl,rfl,fun _=>hf⟩
open Go Go.RX Go.Proofs Go.Ae Go.RX.Sh Go.RX.Fe Go.RX.Fg Go.Gh
theorem Vj(n:Nat):(n:Int)*(135:Int)=((n*135:Nat):Int):=by omega
theorem YO(f:Nat→Bool):ak .aB .u64 (ak .shl .u64 ((num f 64:Nat):Int) 1) (ae .u64 ((ak .shr .u64 ((num (fun i=>f (64+i)) 64:Nat):Int) 63)*135))=((num (xt f) 64:Nat):Int):=by
 have h1:ak .shl .u64 ((num f 64:Nat):Int) 1=((num f 64*2^1%2^64:Nat):Int):=tJ _ 1 (by decide);have h2:ak .shr .u64 ((num (fun i=>f (64+i)) 64:Nat):Int) 63=((num (fun i=>f (64+i)) 64 >>> 63:Nat):Int):=fJ .u64 _ 63 (by decide);rw [h1,h2,Vj,wrap_u64,Oo (Nat.mod_lt _ (by decide)) (Nat.mod_lt _ (by decide)),Vi]
theorem Vk(f:Nat→Bool):ak .bC .u64 (ak .shl .u64 ((num (fun i=>f (64+i)) 64:Nat):Int) 1) (ak .shr .u64 ((num f 64:Nat):Int) 63)=((num (fun i=>xt f (64+i)) 64:Nat):Int):=by
 have h1:ak .shl .u64 ((num (fun i=>f (64+i)) 64:Nat):Int) 1=((num (fun i=>f (64+i)) 64*2^1%2^64:Nat):Int):=tJ _ 1 (by decide);have h2:ak .shr .u64 ((num f 64:Nat):Int) 63=((num f 64 >>> 63:Nat):Int):=fJ .u64 _ 63 (by decide);rw [h1,h2,Hx (Nat.mod_lt _ (by decide)) (CI (kW _ _)),RO]
theorem OC(x s:Nat)(hx:x<2^64)(hs:s≤64):ak .aM .u64 (ak .shr .u64 (x:Int) (s:Int)) 1=1↔x.testBit s=true:=by
 have h2:ak .aM .u64 ((x >>> s:Nat):Int) 1=((x >>> s &&& 1:Nat):Int):=Jt (CI hx) (by decide);rw [fJ .u64 x s hs,h2,←RP];constructor
 ·intro h;exact Int.ofNat.inj h
 ·intro h;rw [h];rfl
theorem Hy{p q:Nat→Bool}(h: ∀i,i<128→p i=q i):l_ p=l_ q:=by
 unfold l_;rw [fS (n:=64) fun i hi=>h i (by omega),fS (p:=fun i=>p (64+i)) (q:=fun i=>q (64+i)) (n:=64) fun i hi=>h (64+i) (by omega)]
theorem ET(p q:Nat→Bool):ax aiT 133 [l_ p,l_ q] [] fun x hs=>x=l_ (gm p q)∧hs=[]:=by
 have h:=ax.oG (C:=Fh.cx) (aV:={i:=4}) (ρ:={iv:=[(num p 64:Nat),(num (fun i=>p (64+i)) 64:Nat),(num q 64:Nat),(num (fun i=>q (64+i)) 64:Nat)]}) Ew pZ Ex Tryz.func133 (by constructor<;>rfl) (fun x=>x=l_ (gm p q))
  (args:=[NO 0,NO 2]) Lg (N9 aiT (fun x _=>x=l_ (gm p q)) (num p 64:Nat) (num (fun i=>p (64+i)) 64:Nat) (num q 64:Nat) (num (fun i=>q (64+i)) 64:Nat) (fun _=>LC.none)) ?_
 ·exact h
 unfold EG;intro _ _ _ _;refine⟨fun e=> ∃k:Nat,k≤128∧e.i.getD 0 0=(num (n7 p q k) 64:Nat)∧e.i.getD 1 0=(num (fun i=>n7 p q k (64+i)) 64:Nat)∧e.i.getD 2 0=127 - (k:Int),fun e=>(e.i.getD 2 0+1).toNat,⟨0,0,127,rfl,rfl,rfl,0,by omega,?_,?_,rfl⟩,?_⟩
 ·show(0:Int)=((num (fun _=>false) 64:Nat):Int);decide
 ·show(0:Int)=((num (fun _=>false) 64:Nat):Int);decide
 rintro x4 x5 x6 ⟨k,hk,h4,h5,h6⟩;simp only [ah,aiS]at h4 h5 h6;subst h4 h5 h6;rw [YO,Vk];have hx: ∀a b:Nat→Bool,ak .aB .u64 ((num a 64:Nat):Int) ((num b 64:Nat):Int)=((num (fun i=>a i ^^ b i) 64:Nat):Int):=fun a b=>by rw [Oo (kW _ _) (kW _ _),JA]
 rw [hx,hx];have on:p (127 - k)=true→∀i,n7 p q (k+1) i=(xt (n7 p q k) i ^^ q i):=fun h i=>by
  rw [n7,h];simp only [Bool.true_and]
 have off: ¬p (127 - k)=true→∀i,n7 p q (k+1) i=xt (n7 p q k) i:=fun h i=>by
  rw [n7];simp only [Bool.not_eq_true]at h;rw [h];simp
 refine⟨fun h0=>?_,fun h0=>?_⟩
 ·have Lq:k+1≤128:=by omega
  have hc:(127 - (k:Int))=((127 - k:Nat):Int):=by omega
  rw [hc,show(64:Int)=((64:Nat):Int)from rfl,xn];refine⟨fun YP=>⟨by omega,fun _=>?_⟩,fun YP=>⟨by omega,fun _=>?_⟩⟩
  ·rw [OC _ _ (kW _ _) (by omega),ek,decide_eq_true (show(127 - k)%64<64 by omega),Bool.true_and,show 64+(127 - k)%64=127 - k by omega];refine⟨fun hb=>?_,fun hb=>?_⟩
   ·intro _ _ _;refine⟨by omega,fun _=>⟨by omega,fun _=>⟨_,_,_,rfl,rfl,rfl,⟨k+1,Lq,?_,?_,?_⟩,?_⟩⟩⟩
    all_goals simp only [ah,aiS]
    ·rw [fS fun i _=>on hb i]
    ·rw [fS fun i _=>on hb (64+i)]
    ·omega
    ·omega
   ·refine⟨by omega,fun _=>⟨by omega,fun _=>⟨_,_,_,rfl,rfl,rfl,⟨k+1,Lq,?_,?_,?_⟩,?_⟩⟩⟩
    all_goals simp only [ah,aiS]
    ·rw [fS fun i _=>off hb i]
    ·rw [fS fun i _=>off hb (64+i)]
    ·omega
    ·omega
  ·rw [OC _ _ (kW _ _) (by omega),ek,decide_eq_true (show(127 - k)%64<64 by omega),Bool.true_and,show(127 - k)%64=127 - k by omega];refine⟨fun hb=>?_,fun hb=>?_⟩
   ·intro _ _ _;refine⟨by omega,fun _=>⟨by omega,fun _=>⟨_,_,_,rfl,rfl,rfl,⟨k+1,Lq,?_,?_,?_⟩,?_⟩⟩⟩
    all_goals simp only [ah,aiS]
    ·rw [fS fun i _=>on hb i]
    ·rw [fS fun i _=>on hb (64+i)]
    ·omega
    ·omega
   ·refine⟨by omega,fun _=>⟨by omega,fun _=>⟨_,_,_,rfl,rfl,rfl,⟨k+1,Lq,?_,?_,?_⟩,?_⟩⟩⟩
    all_goals simp only [ah,aiS]
    ·rw [fS fun i _=>off hb i]
    ·rw [fS fun i _=>off hb (64+i)]
    ·omega
    ·omega
 ·obtain rfl:k=128:=by omega
  exact Hy fun i hi=>Ve p q i hi
end Go.RX.Fh

namespace Go.Wn
open Go.RX Go.RX.Sh
def bit(W:Nat→Nat)(c:Nat):Bool:=(W (c%1024/64)).testBit (c%64)
def clear(x b:Nat):Nat:=(BitVec.ofNat 64 x &&& ~~~ BitVec.ofNat 64 (2^b)).toNat
def u0(W:Nat→Nat)(c j:Nat):Nat:=if j=c%1024/64 then W j|||2^(c%64)else W j
def Hz(W:Nat→Nat)(c j:Nat):Nat:=if j=c%1024/64 then clear (W j) (c%64)else W j
theorem OD(x b:Nat):clear x b<2^64:=BitVec.isLt _
theorem RQ{W:Nat→Nat}(hW: ∀j,W j<2^64)(c j:Nat):u0 W c j<2^64:=by
 unfold u0;split
 ·exact Nat.or_lt_two_pow (hW j) (Nat.pow_lt_pow_right (by decide) (Nat.mod_lt _ (by decide)))
 ·exact hW j
theorem RR{W:Nat→Nat}(hW: ∀j,W j<2^64)(c j:Nat):Hz W c j<2^64:=by
 unfold Hz;split
 ·exact OD _ _
 ·exact hW j
theorem Lr{x b:Nat}(_:x<2^64)(_:b<64)(i:Nat)(hi:i<64):(clear x b).testBit i=(x.testBit i&& !decide (i=b)):=by
 unfold clear;rw [BitVec.testBit_toNat,BitVec.getLsbD_and,BitVec.getLsbD_not,BitVec.getLsbD_ofNat,BitVec.getLsbD_ofNat,Nat.testBit_two_pow,decide_eq_true hi,Bool.true_and,Bool.true_and,Bool.true_and];congr 2;rw [decide_eq_decide];exact eq_comm
theorem RT(W:Nat→Nat)(c e:Nat):bit (u0 W c) e=(bit W e||decide (e%1024=c%1024)):=by
 unfold bit u0;by_cases h:e%1024/64=c%1024/64
 ·rw [if_pos h,Nat.testBit_or,Nat.testBit_two_pow];congr 1;rw [decide_eq_decide];omega
 ·rw [if_neg h];have:decide (e%1024=c%1024)=false:=by rw [decide_eq_false_iff_not];omega
  rw [this,Bool.or_false]
theorem RU{W:Nat→Nat}(hW: ∀j,W j<2^64)(c e:Nat):bit (Hz W c) e=(bit W e&& !decide (e%1024=c%1024)):=by
 unfold bit Hz;by_cases h:e%1024/64=c%1024/64
 ·rw [if_pos h,Lr (hW _) (Nat.mod_lt _ (by decide)) _ (Nat.mod_lt _ (by decide))];congr 2;rw [decide_eq_decide];omega
 ·rw [if_neg h];have:decide (e%1024=c%1024)=false:=by rw [decide_eq_false_iff_not];omega
  rw [this];simp
def cl(W:Nat→Nat)(c n:Nat):Nat→Nat→Nat
 | 0=>W
 | k+1=>Hz (cl W c n k) (c - (n - k)+1)
theorem tK{W:Nat→Nat}(hW: ∀j,W j<2^64)(c n:Nat): ∀k j,cl W c n k j<2^64
 | 0=>hW
 | k+1=>RR (tK hW c n k) _
theorem OE{W:Nat→Nat}(hW: ∀j,W j<2^64)(c n e:Nat): ∀k,bit (cl W c n k) e=true↔bit W e=true∧∀i,i<k→e%1024≠(c - (n - i)+1)%1024
 | 0=>⟨fun h=>⟨h,fun i hi=>absurd hi (by omega)⟩,fun h=>h.1⟩
 | k+1=>by
  rw [cl,RU (tK hW c n k),ai,OE hW c n e k];constructor
  ·rintro ⟨⟨h1,h2⟩,h3⟩;refine⟨h1,fun i hi=>?_⟩;by_cases IK:i=k
   ·subst IK;simpa using h3
   ·exact h2 i (by omega)
  ·rintro ⟨h1,h2⟩;exact⟨⟨h1,fun i hi=>h2 i (by omega)⟩,by simpa using h2 k (by omega)⟩
def ft(some:Bool)(top:Nat)(W:Nat→Nat)(c:Nat):Nat:=if some=false∨top<c then 0 else if 1024≤top - c then 161 else if bit W c=true then 160 else 0
def o9(some:Bool)(top c:Nat):Nat:=if some=true then top else c
def nP(some:Bool)(top c:Nat):Nat:=min (c - min c (o9 some top c)) 1024
def fw(some:Bool)(top c:Nat):Nat:=max (o9 some top c) c
def eO(some:Bool)(top:Nat)(W:Nat→Nat)(c:Nat):Nat→Nat:=u0 (cl W c (nP some top c) (nP some top c)) c
theorem OF{W:Nat→Nat}(hW: ∀j,W j<2^64)(some:Bool)(top c j:Nat):eO some top W c j<2^64:=RQ (tK hW _ _ _) _ _
def Inv(some:Bool)(top:Nat)(W:Nat→Nat)(seen:Nat→Prop):Prop:=
 (some=false→(∀e,¬seen e)∧∀e,bit W e=false)∧(some=true→seen top∧(∀e,seen e→e≤top)∧∀e,e≤top→top - e<1024→(bit W e=true↔seen e))
theorem inv_zero:Inv false 0 (fun _=>0) fun _=>False:=⟨fun _=>⟨fun _ h=>h,fun e=>by unfold bit;exact Nat.zero_testBit _⟩,fun h=>by cases h⟩
theorem OG{some:Bool}{top c:Nat}{W:Nat→Nat}{seen:Nat→Prop}(h:Inv some top W seen)(h0:ft some top W c=0): ¬seen c:=by
 intro hs;cases some with
 | false=>exact(h.1 rfl).1 c hs
 | true=>
  obtain⟨_,h2,h3⟩:=h.2 rfl;have hc:=h2 c hs;unfold ft at h0;rw [if_neg (by simp;omega)]at h0;split at h0
  ·exact absurd h0 (by decide)
  ·rename_i h4;rw [if_pos ((h3 c hc (by omega)).2 hs)]at h0;exact absurd h0 (by decide)
theorem zb{some:Bool}{top c:Nat}{W:Nat→Nat}{seen:Nat→Prop}(h:Inv some top W seen)(h0:ft some top W c=160):seen c:=by
 unfold ft at h0;split at h0
 ·exact absurd h0 (by decide)
 rename_i h1;split at h0
 ·exact absurd h0 (by decide)
 rename_i h2;split at h0
 ·rename_i h3;cases some with
  | false=>exact absurd (.inl rfl) h1
  | true=>exact((h.2 rfl).2.2 c (by omega) (by omega)).1 h3
 ·exact absurd h0 (by decide)
theorem zd{some:Bool}{top c:Nat}{W:Nat→Nat}{seen:Nat→Prop}(hW: ∀j,W j<2^64)(h:Inv some top W seen)(h0:ft some top W c=0):Inv true (fw some top c) (eO some top W c) fun e=>seen e∨e=c:=by
 refine⟨fun h=>(by cases h),fun _=>?_⟩;have Er: ∀e,bit (eO some top W c) e=true↔(bit W e=true∧∀i,i<nP some top c→e%1024≠(c - (nP some top c - i)+1)%1024)∨e%1024=c%1024:=by
  intro e;unfold eO;rw [RT,Bool.or_eq_true,OE hW,decide_eq_true_iff]
 cases some with
 | false=>
  obtain⟨h1,h2⟩:=h.1 rfl;have ht:fw false top c=c:=by unfold fw o9;simp
  rw [ht];refine⟨.inr rfl,fun e he=>?_,fun e he hd=>?_⟩
  ·rcases he with he | rfl
   ·exact absurd he (h1 e)
   ·exact Nat.le_refl _
  ·rw [Er,h2 e];constructor
   ·rintro (⟨h,_⟩ | h)
    ·cases h
    ·exact .inr (by omega)
   ·rintro (h | rfl)
    ·exact absurd h (h1 e)
    ·exact .inr rfl
 | true=>
  obtain⟨h1,h2,h3⟩:=h.2 rfl;have ht:fw true top c=max top c:=by unfold fw o9;rw [if_pos rfl]
  have hn:nP true top c=min (c - min c top) 1024:=by unfold nP o9;rw [if_pos rfl]
  rw [ht];refine⟨?_,fun e he=>?_,fun e he hd=>?_⟩
  ·by_cases hc:top<c
   ·exact .inr (by omega)
   ·exact .inl (by rw [show max top c=top by omega];exact h1)
  ·rcases he with he | rfl
   ·have:=h2 e he;omega
   ·omega
  ·rw [Er,hn];by_cases hc:c≤top
   ·have AX:min (c - min c top) 1024=0:=by omega
    rw [AX];constructor
    ·rintro (⟨h,_⟩ | h)
     ·exact .inl ((h3 e (by omega) (by omega)).1 h)
     ·by_cases hec:e=c
      ·exact .inr hec
      ·exfalso;have hct:top - c<1024:=by
        unfold ft at h0;rw [if_neg (by simp;omega)]at h0;split at h0
        ·exact absurd h0 (by decide)
        ·omega
       omega
    ·rintro (h | rfl)
     ·exact .inl ⟨(h3 e (by omega) (by omega)).2 h,fun i hi=>absurd hi (by omega)⟩
     ·exact .inr rfl
   ·constructor
    ·rintro (⟨h,hi⟩ | h)
     ·by_cases het:e≤top
      ·exact .inl ((h3 e het (by omega)).1 h)
      ·exfalso;have:=hi (e - 1 - (c - min (c - min c top) 1024)) (by omega);apply this;congr 1;omega
     ·exact .inr (by omega)
    ·rintro (h | rfl)
     ·have het:=h2 e h;exact .inl ⟨(h3 e het (by omega)).2 h,fun i hi=>by omega⟩
     ·exact .inr rfl
end Go.Wn

namespace Go.RX.Fi
open Go.RX Go.Proofs Go.RX.Fe Go.RX.Fg
noncomputable def cx:Ctx:={T:=TT,FT:=FT,loops:=Fi.loops,bB:=Fi.bB}
set_option maxRecDepth 100000
def EU(ao:PT)(A0:Nat→Int):Prop:=
 ∀_ _ _:Nat,ao (.agg (aiL (aj .u8 12 A0) (aiL (aj .u8 3 (fun _=>0)) ([.int .u8 1]))).toArray) []
theorem OH(ao:PT)(A0:Nat→Int)(h:EU ao A0):gq 88 [.agg [.b_ .u8 12 (.aN 0)]] [] ⟨[],[A0],[],[],[],[],[],[]⟩ ao:=
 Uh (C:=Fi.cx) _ _ ⟨0,0,0,1,0,0,0⟩ _ Tryz.func88 (by kernel_rfl) h
def OI(ao:PT)(x0 x1 x2:Int)(A0 A1 A2 A3 A4:Nat→Int)(v0 _ _:V1)(b0:Nat):Prop:=
 ∀_ _:Nat,aw (0≤x1) (
 aw (0≤x1) (
 nq x1 (
 ∀_:V1,cg (16 - (ak .rem .i64 x1 16)) ((
 aw (0≤(ak .rem .i64 (16 - (ak .rem .i64 x1 16)) 16)) (
 aw ((x1+(ak .rem .i64 (16 - (ak .rem .i64 x1 16)) 16))≤140737488355328) (
 ∀(_:V1) (_:Nat) (_:V1) (_:Nat) (_:V1) (_:Nat) (_:V1) (_:Nat) (_:V1) (_:Nat) (_:V1) (_:Nat) (_:V1) (_:Nat) (_:V1) (_:Nat) (_:V1),aw (0≤x2) (
 aw (0≤(x1+(ak .rem .i64 (16 - (ak .rem .i64 x1 16)) 16))) (
 aw (0≤x2) (
 aw (((x1+(ak .rem .i64 (16 - (ak .rem .i64 x1 16)) 16))+x2)≤140737488355328) (
 ∀_:V1,cg (16 - (ak .rem .i64 x2 16)) ((
 aw (0≤((x1+(ak .rem .i64 (16 - (ak .rem .i64 x1 16)) 16))+x2)) (
 aw (0≤(ak .rem .i64 (16 - (ak .rem .i64 x2 16)) 16)) (
 aw ((((x1+(ak .rem .i64 (16 - (ak .rem .i64 x1 16)) 16))+x2)+(ak .rem .i64 (16 - (ak .rem .i64 x2 16)) 16))≤140737488355328) (
 ∀(_:V1) (_:Nat) (_:V1) (_:Nat) (_:V1) (_:Nat) (_:V1) (_:Nat) (_:V1) (_:Nat) (_:V1) (_:Nat) (_:V1) (_:Nat) (_:V1) (_:Nat) (_:V1),Cl 112 [.pointer (some ⟨b0,0,none⟩),.agg (aiL (aj .u8 16 (fun _=>0)) ([])).toArray] [al b0 true (aiL (aj .u8 256 A0) ([v0.v])),aG true 177 4 v0.v (ag x0) (aW (ag x0) [bd .u8 4 A1])] fun x hs l=> ∃A5:(Nat→Int),x= .agg (aiL (aj .u8 16 A5) ([])).toArray∧hs=l∧
 aw (0≤(((x1+(ak .rem .i64 (16 - (ak .rem .i64 x1 16)) 16))+x2)+(ak .rem .i64 (16 - (ak .rem .i64 x2 16)) 16))) (
 aw (((((x1+(ak .rem .i64 (16 - (ak .rem .i64 x1 16)) 16))+x2)+(ak .rem .i64 (16 - (ak .rem .i64 x2 16)) 16))+16)≤140737488355328) (
 ∀wU:V1,Cl 111 [.agg (aiL (aj .u8 16 A5) ([])).toArray,wU.v] [bo wU ((((x1+(ak .rem .i64 (16 - (ak .rem .i64 x1 16)) 16))+x2)+(ak .rem .i64 (16 - (ak .rem .i64 x2 16)) 16))+16) (ay (ay (ay (ay A3 (ag x1) (ag (ak .rem .i64 (16 - (ak .rem .i64 x1 16)) 16)) (fun _=>0)) (ag (x1+(ak .rem .i64 (16 - (ak .rem .i64 x1 16)) 16))) (ag x2) A4) (ag ((x1+(ak .rem .i64 (16 - (ak .rem .i64 x1 16)) 16))+x2)) (ag (ak .rem .i64 (16 - (ak .rem .i64 x2 16)) 16)) (fun _=>0)) (ag (((x1+(ak .rem .i64 (16 - (ak .rem .i64 x1 16)) 16))+x2)+(ak .rem .i64 (16 - (ak .rem .i64 x2 16)) 16))) 16 (au (au (au (au (au (au (au (au (au (au (au (au (au (au (au (au (fun _=>0) 0 (ae .u8 (ak .shr .u64 (ak .shl .u64 (ae .u64 x1) 3) 56))) 1 (ae .u8 (ak .shr .u64 (ak .shl .u64 (ae .u64 x1) 3) 48))) 2 (ae .u8 (ak .shr .u64 (ak .shl .u64 (ae .u64 x1) 3) 40))) 3 (ae .u8 (ak .shr .u64 (ak .shl .u64 (ae .u64 x1) 3) 32))) 4 (ae .u8 (ak .shr .u64 (ak .shl .u64 (ae .u64 x1) 3) 24))) 5 (ae .u8 (ak .shr .u64 (ak .shl .u64 (ae .u64 x1) 3) 16))) 6 (ae .u8 (ak .shr .u64 (ak .shl .u64 (ae .u64 x1) 3) 8))) 7 (ae .u8 (ak .shr .u64 (ak .shl .u64 (ae .u64 x1) 3) 0))) 8 (ae .u8 (ak .shr .u64 (ak .shl .u64 (ae .u64 x2) 3) 56))) 9 (ae .u8 (ak .shr .u64 (ak .shl .u64 (ae .u64 x2) 3) 48))) 10 (ae .u8 (ak .shr .u64 (ak .shl .u64 (ae .u64 x2) 3) 40))) 11 (ae .u8 (ak .shr .u64 (ak .shl .u64 (ae .u64 x2) 3) 32))) 12 (ae .u8 (ak .shr .u64 (ak .shl .u64 (ae .u64 x2) 3) 24))) 13 (ae .u8 (ak .shr .u64 (ak .shl .u64 (ae .u64 x2) 3) 16))) 14 (ae .u8 (ak .shr .u64 (ak .shl .u64 (ae .u64 x2) 3) 8))) 15 (ae .u8 (ak .shr .u64 (ak .shl .u64 (ae .u64 x2) 3) 0))))] fun x hs _=> ∃A6:(Nat→Int),x= .agg (aiL (aj .u8 16 A6) ([])).toArray∧hs=[]∧
 ∀Dd:Nat,(Cl 88 [.agg (aiL (aj .u8 12 A2) ([])).toArray] [] fun x hs _=> ∃A7:(Nat→Int),x= .agg (aiL (aj .u8 16 A7) ([])).toArray∧hs=[]∧
 ∀zT:Nat,Cl 62 [.pointer (some ⟨b0,0,none⟩),.agg (aiL (aj .u8 16 A7) ([])).toArray,.slice (some ⟨zT,0,none⟩) 1 1] [al b0 true (aiL (aj .u8 256 A0) ([v0.v])),aG true 177 4 v0.v (ag x0) (aW (ag x0) [bd .u8 4 A1]),al zT true ([.slice (some ⟨Dd,0,none⟩) 16 16]),al Dd true (aiL (aj .u8 16 A6) ([]))] fun x hs l=> ∃(JD:V1) (A8:Nat→Int),x= .tuple #[JD.v,.int .i64 0]∧hs=l++[bn true JD 16 A8]∧
 ao (JD.v) [al b0 true (aiL (aj .u8 256 A0) ([v0.v])),aG true 177 4 v0.v (ag x0) (aW (ag x0) [bd .u8 4 A1]),bn true JD 16 A8])∧
 (∀zT:Nat,Cl 88 [.agg (aiL (aj .u8 12 A2) ([])).toArray] [] fun x hs _=> ∃A7:(Nat→Int),x= .agg (aiL (aj .u8 16 A7) ([])).toArray∧hs=[]∧
 Cl 62 [.pointer (some ⟨b0,0,none⟩),.agg (aiL (aj .u8 16 A7) ([])).toArray,.slice (some ⟨zT,0,none⟩) 1 1] [al b0 true (aiL (aj .u8 256 A0) ([v0.v])),aG true 177 4 v0.v (ag x0) (aW (ag x0) [bd .u8 4 A1]),al zT true ([.slice (some ⟨Dd,0,none⟩) 16 16]),al Dd true (aiL (aj .u8 16 A6) ([]))] fun x hs l=> ∃(JD:V1) (A8:Nat→Int),x= .tuple #[JD.v,.int .i64 0]∧hs=l++[bn true JD 16 A8]∧
 ao (JD.v) [al b0 true (aiL (aj .u8 256 A0) ([v0.v])),aG true 177 4 v0.v (ag x0) (aW (ag x0) [bd .u8 4 A1]),bn true JD 16 A8])))))))))))))))))))
theorem Vl(ao:PT)(x0 x1 x2:Int)(A0 A1 A2 A3 A4:Nat→Int)(v0 v1 v2:V1)(b0:Nat)(h:OI ao x0 x1 x2 A0 A1 A2 A3 A4 v0 v1 v2 b0):gq 89 [.ptr 0 0,.agg [.b_ .u8 12 (.aN 2)],.vv 1,.vv 2] [.row 0 true [.b_ .u8 256 (.aN 0),.vv 0],.bK true 0 177 4 (.var 0) [⟨.int .u8,4,.aN 1⟩],.bK false 1 5 1 (.var 1) [⟨.int .u8,1,.aN 3⟩],.bK false 2 5 1 (.var 2) [⟨.int .u8,1,.aN 4⟩]] ⟨[x0,x1,x2],[A0,A1,A2,A3,A4],[],[b0],[v0,v1,v2],[],[],[]⟩ ao:=
 qX (C:=Fi.cx) _ _ ⟨1,3,3,5,0,0,0⟩ _ 2 1 Tryz.func89 (by kernel_rfl) h
def wY(ao:PT)(x0 x1:Int)(A0 A1:Nat→Int)(_ _:V1):Prop:=
 aw (0≤x0) (
 aw (0≤x1) (
 aJ (¬(x0=x1)) (
 ao (.bool false) []) (
 ∃(fL:Ext→Prop) (fY:Ext→Nat),(∃x2 x3:Int,x2=0∧x3=0∧fL ⟨[],[],[x2,x3],[],[],[],[]⟩)∧
 ∀x2 x3:Int,fL ⟨[],[],[x2,x3],[],[],[],[]⟩→
 aJ (x2<x0) (
 aw (0≤x2) (
 aw (x2<x1) (
 cg (x2+1) ((
 ∃ei dJ:Int,ei=(x2+1)∧dJ=(ak .bC .u8 x3 (ak .aB .u8 (A0 (ag x2)) (A1 (ag x2))))∧fL ⟨[],[],[ei,dJ],[],[],[],[]⟩∧fY ⟨[],[],[ei,dJ],[],[],[],[]⟩<fY ⟨[],[],[x2,x3],[],[],[],[]⟩))))) (
 ao (.bool (x3==0)) []))))
theorem IB(ao:PT)(x0 x1:Int)(A0 A1:Nat→Int)(v0 v1:V1)(h:wY ao x0 x1 A0 A1 v0 v1):gq 68 [.vv 0,.vv 1] [.bK false 0 5 1 (.var 0) [⟨.int .u8,1,.aN 0⟩],.bK false 1 5 1 (.var 1) [⟨.int .u8,1,.aN 1⟩]] ⟨[x0,x1],[A0,A1],[],[],[v0,v1],[],[],[]⟩ ao:=
 Uh (C:=Fi.cx) _ _ ⟨0,2,2,2,0,0,0⟩ _ Tryz.func68 (by kernel_rfl) h
def Bn(ao:PT)(x0 x1:Int)(A0 A1 A2 A3:Nat→Int)(v0 v1 v2:V1):Prop:=
 ∀_:Nat,Cl 60 [v0.v] [bn false v0 16 A0] fun x hs l=> ∃(b1:Nat) (v3:V1) (A4 A5:Nat→Int),x= .tuple #[.pointer (some ⟨b1,0,none⟩),.int .i64 0]∧hs=l++[al b1 true (aiL (aj .u8 256 A4) ([v3.v])),aG true 177 4 v3.v 44 (aW 44 [bd .u8 4 A5])]∧
 Cl 88 [.agg (aiL (aj .u8 12 A1) ([])).toArray] [] fun x hs _=> ∃A6:(Nat→Int),x= .agg (aiL (aj .u8 16 A6) ([])).toArray∧hs=[]∧
 Cl 87 [.agg (aiL (aj .u8 16 A6) ([])).toArray] [] fun x hs _=> ∃A7:(Nat→Int),x= .agg (aiL (aj .u8 16 A7) ([])).toArray∧hs=[]∧
 ∀b2:Nat,Cl 62 [.pointer (some ⟨b1,0,none⟩),.agg (aiL (aj .u8 16 A7) ([])).toArray,.slice (some ⟨b2,0,none⟩) 1 1] [al b1 true (aiL (aj .u8 256 A4) ([v3.v])),aG true 177 4 v3.v 44 (aW 44 [bd .u8 4 A5]),al b2 true ([v2.v]),bi v2 x1 A3] fun x hs l=> ∃(v4:V1) (A8:Nat→Int),x= .tuple #[v4.v,.int .i64 0]∧hs=l++[bo v4 x1 A8]∧
 Cl 89 [.pointer (some ⟨b1,0,none⟩),.agg (aiL (aj .u8 12 A1) ([])).toArray,v1.v,v4.v] [al b1 true (aiL (aj .u8 256 A4) ([v3.v])),aG true 177 4 v3.v 44 (aW 44 [bd .u8 4 A5]),bi v1 x0 A2,bo v4 x1 A8] fun x hs l=> ∃(v5:V1) (A9:Nat→Int),x=v5.v∧hs=l++[bn true v5 16 A9]∧
 aw (0≤x1) (
 nq (x1+16) (
 ∀v6:V1,ao (.tuple #[v6.v,.int .i64 0]) [bo v6 (x1+16) (ay A8 (ag x1) 16 A9),bn true v5 16 A9]))
theorem Ls(ao:PT)(x0 x1:Int)(A0 A1 A2 A3:Nat→Int)(v0 v1 v2:V1)(h:Bn ao x0 x1 A0 A1 A2 A3 v0 v1 v2):gq 56 [.vv 0,.agg [.b_ .u8 12 (.aN 1)],.vv 1,.vv 2] [.bK false 0 5 1 (.lit 16) [⟨.int .u8,1,.aN 0⟩],.bK false 1 5 1 (.var 0) [⟨.int .u8,1,.aN 2⟩],.bK false 2 5 1 (.var 1) [⟨.int .u8,1,.aN 3⟩]] ⟨[x0,x1],[A0,A1,A2,A3],[],[],[v0,v1,v2],[],[],[]⟩ ao:=
 qX (C:=Fi.cx) _ _ ⟨0,3,2,4,0,0,0⟩ _ 0 2 Tryz.func56 (by kernel_rfl) h
def Bo(ao:PT)(x0 x1:Int)(A0 A1 A2 A3:Nat→Int)(v0 v1 v2:V1):Prop:=
 ∀_:Nat,Cl 60 [v0.v] [bn false v0 32 A0] fun x hs l=> ∃(b1:Nat) (v3:V1) (A4 A5:Nat→Int),x= .tuple #[.pointer (some ⟨b1,0,none⟩),.int .i64 0]∧hs=l++[al b1 true (aiL (aj .u8 256 A4) ([v3.v])),aG true 177 4 v3.v 60 (aW 60 [bd .u8 4 A5])]∧
 Cl 88 [.agg (aiL (aj .u8 12 A1) ([])).toArray] [] fun x hs _=> ∃A6:(Nat→Int),x= .agg (aiL (aj .u8 16 A6) ([])).toArray∧hs=[]∧
 Cl 87 [.agg (aiL (aj .u8 16 A6) ([])).toArray] [] fun x hs _=> ∃A7:(Nat→Int),x= .agg (aiL (aj .u8 16 A7) ([])).toArray∧hs=[]∧
 ∀b2:Nat,Cl 62 [.pointer (some ⟨b1,0,none⟩),.agg (aiL (aj .u8 16 A7) ([])).toArray,.slice (some ⟨b2,0,none⟩) 1 1] [al b1 true (aiL (aj .u8 256 A4) ([v3.v])),aG true 177 4 v3.v 60 (aW 60 [bd .u8 4 A5]),al b2 true ([v2.v]),bi v2 x1 A3] fun x hs l=> ∃(v4:V1) (A8:Nat→Int),x= .tuple #[v4.v,.int .i64 0]∧hs=l++[bo v4 x1 A8]∧
 Cl 89 [.pointer (some ⟨b1,0,none⟩),.agg (aiL (aj .u8 12 A1) ([])).toArray,v1.v,v4.v] [al b1 true (aiL (aj .u8 256 A4) ([v3.v])),aG true 177 4 v3.v 60 (aW 60 [bd .u8 4 A5]),bi v1 x0 A2,bo v4 x1 A8] fun x hs l=> ∃(v5:V1) (A9:Nat→Int),x=v5.v∧hs=l++[bn true v5 16 A9]∧
 aw (0≤x1) (
 nq (x1+16) (
 ∀v6:V1,ao (.tuple #[v6.v,.int .i64 0]) [bo v6 (x1+16) (ay A8 (ag x1) 16 A9),bn true v5 16 A9]))
theorem Lt(ao:PT)(x0 x1:Int)(A0 A1 A2 A3:Nat→Int)(v0 v1 v2:V1)(h:Bo ao x0 x1 A0 A1 A2 A3 v0 v1 v2):gq 56 [.vv 0,.agg [.b_ .u8 12 (.aN 1)],.vv 1,.vv 2] [.bK false 0 5 1 (.lit 32) [⟨.int .u8,1,.aN 0⟩],.bK false 1 5 1 (.var 0) [⟨.int .u8,1,.aN 2⟩],.bK false 2 5 1 (.var 1) [⟨.int .u8,1,.aN 3⟩]] ⟨[x0,x1],[A0,A1,A2,A3],[],[],[v0,v1,v2],[],[],[]⟩ ao:=
 qX (C:=Fi.cx) _ _ ⟨0,3,2,4,0,0,0⟩ _ 0 2 Tryz.func56 (by kernel_rfl) h
def Bp(ao:PT)(x0 x1:Int)(A0 A1 A2 A3:Nat→Int)(v0 v1 v2:V1):Prop:=
 ∀_:Nat,Cl 60 [v0.v] [bn false v0 16 A0] fun x hs l=> ∃(b1:Nat) (v3:V1) (A4 A5:Nat→Int),x= .tuple #[.pointer (some ⟨b1,0,none⟩),.int .i64 0]∧hs=l++[al b1 true (aiL (aj .u8 256 A4) ([v3.v])),aG true 177 4 v3.v 44 (aW 44 [bd .u8 4 A5])]∧
 aw (0≤x1) (
 cg (x1 - 16) ((
 aw (((x1 - 16)<0)∨(0≤(x1 - 16))) (
 aw (((x1 - 16)<0)∨((x1 - 16)≤x1)) (
 aw (((x1 - 16)<0)∨(0≤(x1 - 16))) (
 aw (((x1 - 16)<0)∨((x1 - 16)≤x1)) (
 aJ (¬((x1 - 16)<0)) (
 Cl 89 [.pointer (some ⟨b1,0,none⟩),.agg (aiL (aj .u8 12 A1) ([])).toArray,v1.v,(aC 1 v2.v 0 (ag (x1 - 16)) none)] [al b1 true (aiL (aj .u8 256 A4) ([v3.v])),aG true 177 4 v3.v 44 (aW 44 [bd .u8 4 A5]),bi v1 x0 A2,bi v2 x1 A3] fun x hs l=> ∃(v4:V1) (A6:Nat→Int),x=v4.v∧hs=l++[bn true v4 16 A6]∧
 Cl 68 [v4.v,(if(!(decide ((x1 - 16)<0)))then(aC 1 v2.v (ag (x1 - 16)) (ag x1) none)else undef)] [bn true v4 16 A6,bi v2 x1 A3] fun x hs l=> ∃q0:Bool,x= .bool q0∧hs=l∧
 aJ (¬(q0=true)) (
 ao (.tuple #[.slice none 0 0,.int .i64 140]) [bn true v4 16 A6]) (
 aw (0≤(x1 - 16)) (
 aw ((x1 - 16)≤x1) (
 (Cl 88 [.agg (aiL (aj .u8 12 A1) ([])).toArray] [] fun x hs _=> ∃A7:(Nat→Int),x= .agg (aiL (aj .u8 16 A7) ([])).toArray∧hs=[]∧
 (Cl 87 [.agg (aiL (aj .u8 16 A7) ([])).toArray] [] fun x hs _=> ∃A8:(Nat→Int),x= .agg (aiL (aj .u8 16 A8) ([])).toArray∧hs=[]∧
 ∀b2:Nat,Cl 62 [.pointer (some ⟨b1,0,none⟩),.agg (aiL (aj .u8 16 A8) ([])).toArray,.slice (some ⟨b2,0,none⟩) 1 1] [al b1 true (aiL (aj .u8 256 A4) ([v3.v])),aG true 177 4 v3.v 44 (aW 44 [bd .u8 4 A5]),al b2 true ([(aC 1 v2.v 0 (ag (x1 - 16)) none)]),bi v2 x1 A3] fun x hs l=> ∃(v5:V1) (A9:Nat→Int),x= .tuple #[v5.v,.int .i64 0]∧hs=l++[bo v5 (x1 - 16) A9]∧
 ao (.tuple #[v5.v,.int .i64 0]) [bo v5 (x1 - 16) A9])∧
 (∀b2:Nat,Cl 87 [.agg (aiL (aj .u8 16 A7) ([])).toArray] [] fun x hs _=> ∃A8:(Nat→Int),x= .agg (aiL (aj .u8 16 A8) ([])).toArray∧hs=[]∧
 Cl 62 [.pointer (some ⟨b1,0,none⟩),.agg (aiL (aj .u8 16 A8) ([])).toArray,.slice (some ⟨b2,0,none⟩) 1 1] [al b1 true (aiL (aj .u8 256 A4) ([v3.v])),aG true 177 4 v3.v 44 (aW 44 [bd .u8 4 A5]),al b2 true ([(aC 1 v2.v 0 (ag (x1 - 16)) none)]),bi v2 x1 A3] fun x hs l=> ∃(v5:V1) (A9:Nat→Int),x= .tuple #[v5.v,.int .i64 0]∧hs=l++[bo v5 (x1 - 16) A9]∧
 ao (.tuple #[v5.v,.int .i64 0]) [bo v5 (x1 - 16) A9]))∧
 (∀b2:Nat,Cl 88 [.agg (aiL (aj .u8 12 A1) ([])).toArray] [] fun x hs _=> ∃A7:(Nat→Int),x= .agg (aiL (aj .u8 16 A7) ([])).toArray∧hs=[]∧
 Cl 87 [.agg (aiL (aj .u8 16 A7) ([])).toArray] [] fun x hs _=> ∃A8:(Nat→Int),x= .agg (aiL (aj .u8 16 A8) ([])).toArray∧hs=[]∧
 Cl 62 [.pointer (some ⟨b1,0,none⟩),.agg (aiL (aj .u8 16 A8) ([])).toArray,.slice (some ⟨b2,0,none⟩) 1 1] [al b1 true (aiL (aj .u8 256 A4) ([v3.v])),aG true 177 4 v3.v 44 (aW 44 [bd .u8 4 A5]),al b2 true ([(aC 1 v2.v 0 (ag (x1 - 16)) none)]),bi v2 x1 A3] fun x hs l=> ∃(v5:V1) (A9:Nat→Int),x= .tuple #[v5.v,.int .i64 0]∧hs=l++[bo v5 (x1 - 16) A9]∧
 ao (.tuple #[v5.v,.int .i64 0]) [bo v5 (x1 - 16) A9]))))) (
 ao (.tuple #[.slice none 0 0,.int .i64 140]) [aG true 177 4 v3.v 44 (aW 44 [bd .u8 4 A5])]))))))))
theorem Lu(ao:PT)(x0 x1:Int)(A0 A1 A2 A3:Nat→Int)(v0 v1 v2:V1)(h:Bp ao x0 x1 A0 A1 A2 A3 v0 v1 v2):gq 59 [.vv 0,.agg [.b_ .u8 12 (.aN 1)],.vv 1,.vv 2] [.bK false 0 5 1 (.lit 16) [⟨.int .u8,1,.aN 0⟩],.bK false 1 5 1 (.var 0) [⟨.int .u8,1,.aN 2⟩],.bK false 2 5 1 (.var 1) [⟨.int .u8,1,.aN 3⟩]] ⟨[x0,x1],[A0,A1,A2,A3],[],[],[v0,v1,v2],[],[],[]⟩ ao:=
 qX (C:=Fi.cx) _ _ ⟨0,3,2,4,0,0,0⟩ _ 0 1 Tryz.func59 (by kernel_rfl) h
def Bq(ao:PT)(x0 x1:Int)(A0 A1 A2 A3:Nat→Int)(v0 v1 v2:V1):Prop:=
 ∀_:Nat,Cl 60 [v0.v] [bn false v0 32 A0] fun x hs l=> ∃(b1:Nat) (v3:V1) (A4 A5:Nat→Int),x= .tuple #[.pointer (some ⟨b1,0,none⟩),.int .i64 0]∧hs=l++[al b1 true (aiL (aj .u8 256 A4) ([v3.v])),aG true 177 4 v3.v 60 (aW 60 [bd .u8 4 A5])]∧
 aw (0≤x1) (
 cg (x1 - 16) ((
 aw (((x1 - 16)<0)∨(0≤(x1 - 16))) (
 aw (((x1 - 16)<0)∨((x1 - 16)≤x1)) (
 aw (((x1 - 16)<0)∨(0≤(x1 - 16))) (
 aw (((x1 - 16)<0)∨((x1 - 16)≤x1)) (
 aJ (¬((x1 - 16)<0)) (
 Cl 89 [.pointer (some ⟨b1,0,none⟩),.agg (aiL (aj .u8 12 A1) ([])).toArray,v1.v,(aC 1 v2.v 0 (ag (x1 - 16)) none)] [al b1 true (aiL (aj .u8 256 A4) ([v3.v])),aG true 177 4 v3.v 60 (aW 60 [bd .u8 4 A5]),bi v1 x0 A2,bi v2 x1 A3] fun x hs l=> ∃(v4:V1) (A6:Nat→Int),x=v4.v∧hs=l++[bn true v4 16 A6]∧
 Cl 68 [v4.v,(if(!(decide ((x1 - 16)<0)))then(aC 1 v2.v (ag (x1 - 16)) (ag x1) none)else undef)] [bn true v4 16 A6,bi v2 x1 A3] fun x hs l=> ∃q0:Bool,x= .bool q0∧hs=l∧
 aJ (¬(q0=true)) (
 ao (.tuple #[.slice none 0 0,.int .i64 140]) [bn true v4 16 A6]) (
 aw (0≤(x1 - 16)) (
 aw ((x1 - 16)≤x1) (
 (Cl 88 [.agg (aiL (aj .u8 12 A1) ([])).toArray] [] fun x hs _=> ∃A7:(Nat→Int),x= .agg (aiL (aj .u8 16 A7) ([])).toArray∧hs=[]∧
 (Cl 87 [.agg (aiL (aj .u8 16 A7) ([])).toArray] [] fun x hs _=> ∃A8:(Nat→Int),x= .agg (aiL (aj .u8 16 A8) ([])).toArray∧hs=[]∧
 ∀b2:Nat,Cl 62 [.pointer (some ⟨b1,0,none⟩),.agg (aiL (aj .u8 16 A8) ([])).toArray,.slice (some ⟨b2,0,none⟩) 1 1] [al b1 true (aiL (aj .u8 256 A4) ([v3.v])),aG true 177 4 v3.v 60 (aW 60 [bd .u8 4 A5]),al b2 true ([(aC 1 v2.v 0 (ag (x1 - 16)) none)]),bi v2 x1 A3] fun x hs l=> ∃(v5:V1) (A9:Nat→Int),x= .tuple #[v5.v,.int .i64 0]∧hs=l++[bo v5 (x1 - 16) A9]∧
 ao (.tuple #[v5.v,.int .i64 0]) [bo v5 (x1 - 16) A9])∧
 (∀b2:Nat,Cl 87 [.agg (aiL (aj .u8 16 A7) ([])).toArray] [] fun x hs _=> ∃A8:(Nat→Int),x= .agg (aiL (aj .u8 16 A8) ([])).toArray∧hs=[]∧
 Cl 62 [.pointer (some ⟨b1,0,none⟩),.agg (aiL (aj .u8 16 A8) ([])).toArray,.slice (some ⟨b2,0,none⟩) 1 1] [al b1 true (aiL (aj .u8 256 A4) ([v3.v])),aG true 177 4 v3.v 60 (aW 60 [bd .u8 4 A5]),al b2 true ([(aC 1 v2.v 0 (ag (x1 - 16)) none)]),bi v2 x1 A3] fun x hs l=> ∃(v5:V1) (A9:Nat→Int),x= .tuple #[v5.v,.int .i64 0]∧hs=l++[bo v5 (x1 - 16) A9]∧
 ao (.tuple #[v5.v,.int .i64 0]) [bo v5 (x1 - 16) A9]))∧
 (∀b2:Nat,Cl 88 [.agg (aiL (aj .u8 12 A1) ([])).toArray] [] fun x hs _=> ∃A7:(Nat→Int),x= .agg (aiL (aj .u8 16 A7) ([])).toArray∧hs=[]∧
 Cl 87 [.agg (aiL (aj .u8 16 A7) ([])).toArray] [] fun x hs _=> ∃A8:(Nat→Int),x= .agg (aiL (aj .u8 16 A8) ([])).toArray∧hs=[]∧
 Cl 62 [.pointer (some ⟨b1,0,none⟩),.agg (aiL (aj .u8 16 A8) ([])).toArray,.slice (some ⟨b2,0,none⟩) 1 1] [al b1 true (aiL (aj .u8 256 A4) ([v3.v])),aG true 177 4 v3.v 60 (aW 60 [bd .u8 4 A5]),al b2 true ([(aC 1 v2.v 0 (ag (x1 - 16)) none)]),bi v2 x1 A3] fun x hs l=> ∃(v5:V1) (A9:Nat→Int),x= .tuple #[v5.v,.int .i64 0]∧hs=l++[bo v5 (x1 - 16) A9]∧
 ao (.tuple #[v5.v,.int .i64 0]) [bo v5 (x1 - 16) A9]))))) (
 ao (.tuple #[.slice none 0 0,.int .i64 140]) [aG true 177 4 v3.v 60 (aW 60 [bd .u8 4 A5])]))))))))
theorem Lv(ao:PT)(x0 x1:Int)(A0 A1 A2 A3:Nat→Int)(v0 v1 v2:V1)(h:Bq ao x0 x1 A0 A1 A2 A3 v0 v1 v2):gq 59 [.vv 0,.agg [.b_ .u8 12 (.aN 1)],.vv 1,.vv 2] [.bK false 0 5 1 (.lit 32) [⟨.int .u8,1,.aN 0⟩],.bK false 1 5 1 (.var 0) [⟨.int .u8,1,.aN 2⟩],.bK false 2 5 1 (.var 1) [⟨.int .u8,1,.aN 3⟩]] ⟨[x0,x1],[A0,A1,A2,A3],[],[],[v0,v1,v2],[],[],[]⟩ ao:=
 qX (C:=Fi.cx) _ _ ⟨0,3,2,4,0,0,0⟩ _ 0 1 Tryz.func59 (by kernel_rfl) h
end Go.RX.Fi

namespace Go.Gh
def oZ(T:Nat→Nat)(len r j:Nat):Nat:=if 16*r+j<len then T (16*r+j)else 0
def gh(H:Nat→Bool)(T:Nat→Nat)(len:Nat):Nat→(Nat→Bool)
 | 0=>fun _=>false
 | r+1=>gm (add (gh H T len r) (pb (oZ T len r))) H
def qc(H T:Nat→Nat)(len:Nat):Nat→Nat:=bp (gh (pb H) T len ((len+15)/16))
theorem Vm(T:Nat→Nat)(hT: ∀j,T j<256)(len r j:Nat):oZ T len r j<256:=by
 unfold oZ;split
 ·exact hT _
 ·decide
theorem EV(H T:Nat→Nat)(len j:Nat):qc H T len j<256:=YL _ j
end Go.Gh
