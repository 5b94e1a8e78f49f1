/- SHA-256. -/
import Derived.Test.YtphemenngjkfbaaShH
import Derived.Test.YtphemenngjkfbaaM44
open Go.IntKind renaming i64 → adL, u64 → ad4, u8 → adG, wrap → ae
open Go.Proofs.Try renaming prog → adY
open List renaming getD_cons_succ → aeg, getD_cons_zero → ah
namespace Go.RX.Sh
open Go.RX Go.Proofs
theorem QS(a b:Nat):ax .quo .u64 (a:Int) (b:Int)=((a/b:Nat):Int):=rfl
theorem Cr(a b:Nat):ax .rem .u64 (a:Int) (b:Int)=((a%b:Nat):Int):=rfl
theorem wrap64{n:Nat}(h:n<2^64):ae .u64 (n:Int)=(n:Int):=by rw [wrap_u64,Nat.mod_eq_of_lt h]
theorem I2{x n:Nat}(hx:x<2^32):ae .u64 (ax .quo .u64 (x:Int) ((2^n:Nat):Int))=((x/2^n:Nat):Int):=by
 rw [QS,wrap64 (Nat.lt_trans (qZ hx) (by decide))]
theorem rP{x n:Nat}(hx:x<2^32)(hn:n≤32):
  ae .u64 (ae .u64 (ax .quo .u64 (x:Int) ((2^n:Nat):Int))+ax .rem .u64 (ae .u64 ((x:Int)*((2^(32 - n):Nat):Int))) ((2^32:Nat):Int))=((fb x n:Nat):Int):=by
 have h2:x*2^(32 - n)<2^64:=by
  have h3:2^(32 - n)≤2^32:=Nat.pow_le_pow_right (by decide) (by omega);have h4:x*2^(32 - n)≤x*2^32:=Nat.mul_le_mul_left _ h3;omega
 have h5:=cu hx hn;unfold fb at h5 ⊢;rw [I2 hx,←Int.natCast_mul,wrap64 h2,Cr,←Int.natCast_add,wrap64 (Nat.lt_trans h5 (by decide))]
theorem zy{a b:Nat}(ha:a<2^32)(hb:b<2^32):ax .cr .u64 (a:Int) (b:Int)=((a^^^b:Nat):Int):=VI (Nat.lt_trans ha (by decide)) (Nat.lt_trans hb (by decide))
theorem Fo(n:Nat)(hn:n≤32):aq adY 130 [.int .i64 (n:Int)] [] (fun r hs=>r= .int .u64 ((2^n:Nat):Int)∧hs=[]):=by
 refine aq.eA (C:=cx) (aQ:={i:=1}) (ρ:={iv:=[(n:Int)]}) pA gw pB Try.func130 (by constructor<;>rfl)
  (args:=[.int .i64 (.var 0)]) (hp:=[]) ?_
 rw [show cC cx 130 [.int .i64 (.var 0)] [] {i:=1} Try.f130=zp from K6,Oa];unfold Fc;refine⟨fun e=> ∃a:Nat,a≤n∧e.i=[((2^a:Nat):Int),(a:Int)],fun e=>((n:Int) - e.i.getD 1 0).toNat,⟨_,_,rfl,rfl,0,by omega,rfl⟩,?_⟩;rintro x1 x2 ⟨a,ha,hx⟩;simp only [List.cons.injEq,and_true]at hx;obtain⟨rfl,rfl⟩:=hx;refine⟨fun cK=>⟨by omega,fun _=>⟨by omega,fun _=>⟨_,_,rfl,rfl,⟨a+1,by omega,?_⟩,?_⟩⟩⟩,fun wG=>⟨?_,rfl⟩⟩
 ·have h1:2^(a+1)≤2^32:=Nat.pow_le_pow_right (by decide) (by omega);have h2:ae .u64 (2*((2^a:Nat):Int))=((2^(a+1):Nat):Int):=by
   rw [show(2:Int)*((2^a:Nat):Int)=((2^(a+1):Nat):Int) by rw [Nat.pow_succ,Nat.mul_comm,Int.natCast_mul];rfl];exact wrap64 (Nat.lt_of_le_of_lt h1 (by decide))
  rw [h2,Int.natCast_add];rfl
 ·simp only [ah,aeg];omega
 ·rw [show a=n by omega]
theorem aZ(n:Nat){m p:Int}(hm:(n:Int)=m)(hp:((2^n:Nat):Int)=p)(hn:n≤32):aq adY 130 [.int .i64 m] [] (fun r hs=>r= .int .u64 p∧hs=[]):=by
 subst hm;subst hp;exact Fo n hn
theorem Zy{x:Nat}(hx:x<2^32):(ax .cr .u64 (ax .cr .u64 (ae .u64 ((ae .u64 (ax .quo .u64 (x:Int) 4))+(ax .rem .u64 (ae .u64 ((x:Int)*1073741824)) 4294967296))) (ae .u64 ((ae .u64 (ax .quo .u64 (x:Int) 8192))+(ax .rem .u64 (ae .u64 ((x:Int)*524288)) 4294967296)))) (ae .u64 ((ae .u64 (ax .quo .u64 (x:Int) 4194304))+(ax .rem .u64 (ae .u64 ((x:Int)*1024)) 4294967296))))=((S0 x:Nat):Int):=by
 have r0:ae .u64 ((ae .u64 (ax .quo .u64 (x:Int) 4))+(ax .rem .u64 (ae .u64 ((x:Int)*1073741824)) 4294967296))=((fb x 2:Nat):Int):=rP (n:=2) hx (by decide);have l0:fb x 2<2^32:=cu hx (by decide);have r1:ae .u64 ((ae .u64 (ax .quo .u64 (x:Int) 8192))+(ax .rem .u64 (ae .u64 ((x:Int)*524288)) 4294967296))=((fb x 13:Nat):Int):=rP (n:=13) hx (by decide);have l1:fb x 13<2^32:=cu hx (by decide);have r2:ae .u64 ((ae .u64 (ax .quo .u64 (x:Int) 4194304))+(ax .rem .u64 (ae .u64 ((x:Int)*1024)) 4294967296))=((fb x 22:Nat):Int):=rP (n:=22) hx (by decide);have l2:fb x 22<2^32:=cu hx (by decide);rw [r0,r1,r2,zy l0 l1,zy (eZ l0 l1) l2];rfl
theorem Fp(x:Nat)(hx:x<2^32):aq adY 133 [.int .i64 0,.int .u64 (x:Int),.int .i64 32] [] (fun r hs=>r= .int .u64 ((S0 x:Nat):Int)∧hs=[]):=by
 refine aq.eA (C:=cx) (aQ:={i:=1}) (ρ:={iv:=[(x:Int)]}) pA gw pB Try.func133 (by constructor<;>rfl)
  (args:=[.int .i64 (.lit 0),.int .u64 (.var 0),.int .i64 (.lit 32)]) (hp:=[]) ?_
 rw [show cC cx 133 [.int .i64 (.lit 0),.int .u64 (.var 0),.int .i64 (.lit 32)] [] {i:=1} Try.f133=zq from K7,Ob];unfold Fe;refine⟨_,aZ 22 rfl rfl (by decide),?_⟩;rintro r hs ⟨rfl,rfl⟩;refine⟨rfl,rfl,?_⟩;refine⟨_,aZ 22 rfl rfl (by decide),?_⟩;rintro r hs ⟨rfl,rfl⟩;refine⟨rfl,rfl,?_⟩;refine⟨_,aZ 10 rfl rfl (by decide),?_⟩;rintro r hs ⟨rfl,rfl⟩;refine⟨rfl,rfl,?_⟩;refine⟨_,aZ 32 rfl rfl (by decide),?_⟩;rintro r hs ⟨rfl,rfl⟩;refine⟨rfl,rfl,?_⟩;refine⟨_,aZ 2 rfl rfl (by decide),?_⟩;rintro r hs ⟨rfl,rfl⟩;refine⟨rfl,rfl,?_⟩;refine⟨_,aZ 30 rfl rfl (by decide),?_⟩;rintro r hs ⟨rfl,rfl⟩;refine⟨rfl,rfl,?_⟩;refine⟨_,aZ 32 rfl rfl (by decide),?_⟩;rintro r hs ⟨rfl,rfl⟩;refine⟨rfl,rfl,?_⟩;refine⟨_,aZ 13 rfl rfl (by decide),?_⟩;rintro r hs ⟨rfl,rfl⟩;refine⟨rfl,rfl,?_⟩;refine⟨_,aZ 19 rfl rfl (by decide),?_⟩;rintro r hs ⟨rfl,rfl⟩;refine⟨rfl,rfl,?_⟩;refine⟨_,aZ 32 rfl rfl (by decide),?_⟩;rintro r hs ⟨rfl,rfl⟩;refine⟨rfl,rfl,?_⟩;exact⟨congrArg _ (Zy hx),rfl⟩
theorem Zz{x:Nat}(hx:x<2^32):(ax .cr .u64 (ax .cr .u64 (ae .u64 ((ae .u64 (ax .quo .u64 (x:Int) 64))+(ax .rem .u64 (ae .u64 ((x:Int)*67108864)) 4294967296))) (ae .u64 ((ae .u64 (ax .quo .u64 (x:Int) 2048))+(ax .rem .u64 (ae .u64 ((x:Int)*2097152)) 4294967296)))) (ae .u64 ((ae .u64 (ax .quo .u64 (x:Int) 33554432))+(ax .rem .u64 (ae .u64 ((x:Int)*128)) 4294967296))))=((S1 x:Nat):Int):=by
 have r0:ae .u64 ((ae .u64 (ax .quo .u64 (x:Int) 64))+(ax .rem .u64 (ae .u64 ((x:Int)*67108864)) 4294967296))=((fb x 6:Nat):Int):=rP (n:=6) hx (by decide);have l0:fb x 6<2^32:=cu hx (by decide);have r1:ae .u64 ((ae .u64 (ax .quo .u64 (x:Int) 2048))+(ax .rem .u64 (ae .u64 ((x:Int)*2097152)) 4294967296))=((fb x 11:Nat):Int):=rP (n:=11) hx (by decide);have l1:fb x 11<2^32:=cu hx (by decide);have r2:ae .u64 ((ae .u64 (ax .quo .u64 (x:Int) 33554432))+(ax .rem .u64 (ae .u64 ((x:Int)*128)) 4294967296))=((fb x 25:Nat):Int):=rP (n:=25) hx (by decide);have l2:fb x 25<2^32:=cu hx (by decide);rw [r0,r1,r2,zy l0 l1,zy (eZ l0 l1) l2];rfl
theorem Fq(x:Nat)(hx:x<2^32):aq adY 133 [.int .i64 1,.int .u64 (x:Int),.int .i64 32] [] (fun r hs=>r= .int .u64 ((S1 x:Nat):Int)∧hs=[]):=by
 refine aq.eA (C:=cx) (aQ:={i:=1}) (ρ:={iv:=[(x:Int)]}) pA gw pB Try.func133 (by constructor<;>rfl)
  (args:=[.int .i64 (.lit 1),.int .u64 (.var 0),.int .i64 (.lit 32)]) (hp:=[]) ?_
 rw [show cC cx 133 [.int .i64 (.lit 1),.int .u64 (.var 0),.int .i64 (.lit 32)] [] {i:=1} Try.f133=zt from K8,Oc];unfold Ff;refine⟨_,aZ 25 rfl rfl (by decide),?_⟩;rintro r hs ⟨rfl,rfl⟩;refine⟨rfl,rfl,?_⟩;refine⟨_,aZ 25 rfl rfl (by decide),?_⟩;rintro r hs ⟨rfl,rfl⟩;refine⟨rfl,rfl,?_⟩;refine⟨_,aZ 7 rfl rfl (by decide),?_⟩;rintro r hs ⟨rfl,rfl⟩;refine⟨rfl,rfl,?_⟩;refine⟨_,aZ 32 rfl rfl (by decide),?_⟩;rintro r hs ⟨rfl,rfl⟩;refine⟨rfl,rfl,?_⟩;refine⟨_,aZ 6 rfl rfl (by decide),?_⟩;rintro r hs ⟨rfl,rfl⟩;refine⟨rfl,rfl,?_⟩;refine⟨_,aZ 26 rfl rfl (by decide),?_⟩;rintro r hs ⟨rfl,rfl⟩;refine⟨rfl,rfl,?_⟩;refine⟨_,aZ 32 rfl rfl (by decide),?_⟩;rintro r hs ⟨rfl,rfl⟩;refine⟨rfl,rfl,?_⟩;refine⟨_,aZ 11 rfl rfl (by decide),?_⟩;rintro r hs ⟨rfl,rfl⟩;refine⟨rfl,rfl,?_⟩;refine⟨_,aZ 21 rfl rfl (by decide),?_⟩;rintro r hs ⟨rfl,rfl⟩;refine⟨rfl,rfl,?_⟩;refine⟨_,aZ 32 rfl rfl (by decide),?_⟩;rintro r hs ⟨rfl,rfl⟩;refine⟨rfl,rfl,?_⟩;exact⟨congrArg _ (Zz hx),rfl⟩
theorem ZA{x:Nat}(hx:x<2^32):(ax .cr .u64 (ax .cr .u64 (ae .u64 ((ae .u64 (ax .quo .u64 (x:Int) 128))+(ax .rem .u64 (ae .u64 ((x:Int)*33554432)) 4294967296))) (ae .u64 ((ae .u64 (ax .quo .u64 (x:Int) 262144))+(ax .rem .u64 (ae .u64 ((x:Int)*16384)) 4294967296)))) (ae .u64 (ax .quo .u64 (x:Int) 8)))=((s0 x:Nat):Int):=by
 have r0:ae .u64 ((ae .u64 (ax .quo .u64 (x:Int) 128))+(ax .rem .u64 (ae .u64 ((x:Int)*33554432)) 4294967296))=((fb x 7:Nat):Int):=rP (n:=7) hx (by decide);have l0:fb x 7<2^32:=cu hx (by decide);have r1:ae .u64 ((ae .u64 (ax .quo .u64 (x:Int) 262144))+(ax .rem .u64 (ae .u64 ((x:Int)*16384)) 4294967296))=((fb x 18:Nat):Int):=rP (n:=18) hx (by decide);have l1:fb x 18<2^32:=cu hx (by decide);have r2:ae .u64 (ax .quo .u64 (x:Int) 8)=((x/2^3:Nat):Int):=I2 (n:=3) hx;have l2:x/2^3<2^32:=qZ hx;rw [r0,r1,r2,zy l0 l1,zy (eZ l0 l1) l2];rfl
theorem Ft(x:Nat)(hx:x<2^32):aq adY 133 [.int .i64 2,.int .u64 (x:Int),.int .i64 32] [] (fun r hs=>r= .int .u64 ((s0 x:Nat):Int)∧hs=[]):=by
 refine aq.eA (C:=cx) (aQ:={i:=1}) (ρ:={iv:=[(x:Int)]}) pA gw pB Try.func133 (by constructor<;>rfl)
  (args:=[.int .i64 (.lit 2),.int .u64 (.var 0),.int .i64 (.lit 32)]) (hp:=[]) ?_
 rw [show cC cx 133 [.int .i64 (.lit 2),.int .u64 (.var 0),.int .i64 (.lit 32)] [] {i:=1} Try.f133=zu from K9,Od];unfold Fg;refine⟨_,aZ 3 rfl rfl (by decide),?_⟩;rintro r hs ⟨rfl,rfl⟩;refine⟨rfl,rfl,?_⟩;refine⟨_,aZ 7 rfl rfl (by decide),?_⟩;rintro r hs ⟨rfl,rfl⟩;refine⟨rfl,rfl,?_⟩;refine⟨_,aZ 25 rfl rfl (by decide),?_⟩;rintro r hs ⟨rfl,rfl⟩;refine⟨rfl,rfl,?_⟩;refine⟨_,aZ 32 rfl rfl (by decide),?_⟩;rintro r hs ⟨rfl,rfl⟩;refine⟨rfl,rfl,?_⟩;refine⟨_,aZ 18 rfl rfl (by decide),?_⟩;rintro r hs ⟨rfl,rfl⟩;refine⟨rfl,rfl,?_⟩;refine⟨_,aZ 14 rfl rfl (by decide),?_⟩;rintro r hs ⟨rfl,rfl⟩;refine⟨rfl,rfl,?_⟩;refine⟨_,aZ 32 rfl rfl (by decide),?_⟩;rintro r hs ⟨rfl,rfl⟩;refine⟨rfl,rfl,?_⟩;exact⟨congrArg _ (ZA hx),rfl⟩
theorem ZB{x:Nat}(hx:x<2^32):(ax .cr .u64 (ax .cr .u64 (ae .u64 ((ae .u64 (ax .quo .u64 (x:Int) 131072))+(ax .rem .u64 (ae .u64 ((x:Int)*32768)) 4294967296))) (ae .u64 ((ae .u64 (ax .quo .u64 (x:Int) 524288))+(ax .rem .u64 (ae .u64 ((x:Int)*8192)) 4294967296)))) (ae .u64 (ax .quo .u64 (x:Int) 1024)))=((s1 x:Nat):Int):=by
 have r0:ae .u64 ((ae .u64 (ax .quo .u64 (x:Int) 131072))+(ax .rem .u64 (ae .u64 ((x:Int)*32768)) 4294967296))=((fb x 17:Nat):Int):=rP (n:=17) hx (by decide);have l0:fb x 17<2^32:=cu hx (by decide);have r1:ae .u64 ((ae .u64 (ax .quo .u64 (x:Int) 524288))+(ax .rem .u64 (ae .u64 ((x:Int)*8192)) 4294967296))=((fb x 19:Nat):Int):=rP (n:=19) hx (by decide);have l1:fb x 19<2^32:=cu hx (by decide);have r2:ae .u64 (ax .quo .u64 (x:Int) 1024)=((x/2^10:Nat):Int):=I2 (n:=10) hx;have l2:x/2^10<2^32:=qZ hx;rw [r0,r1,r2,zy l0 l1,zy (eZ l0 l1) l2];rfl
theorem Fu(x:Nat)(hx:x<2^32):aq adY 133 [.int .i64 3,.int .u64 (x:Int),.int .i64 32] [] (fun r hs=>r= .int .u64 ((s1 x:Nat):Int)∧hs=[]):=by
 refine aq.eA (C:=cx) (aQ:={i:=1}) (ρ:={iv:=[(x:Int)]}) pA gw pB Try.func133 (by constructor<;>rfl)
  (args:=[.int .i64 (.lit 3),.int .u64 (.var 0),.int .i64 (.lit 32)]) (hp:=[]) ?_
 rw [show cC cx 133 [.int .i64 (.lit 3),.int .u64 (.var 0),.int .i64 (.lit 32)] [] {i:=1} Try.f133=zv from K_,Oe];unfold Fh;refine⟨_,aZ 10 rfl rfl (by decide),?_⟩;rintro r hs ⟨rfl,rfl⟩;refine⟨rfl,rfl,?_⟩;refine⟨_,aZ 17 rfl rfl (by decide),?_⟩;rintro r hs ⟨rfl,rfl⟩;refine⟨rfl,rfl,?_⟩;refine⟨_,aZ 15 rfl rfl (by decide),?_⟩;rintro r hs ⟨rfl,rfl⟩;refine⟨rfl,rfl,?_⟩;refine⟨_,aZ 32 rfl rfl (by decide),?_⟩;rintro r hs ⟨rfl,rfl⟩;refine⟨rfl,rfl,?_⟩;refine⟨_,aZ 19 rfl rfl (by decide),?_⟩;rintro r hs ⟨rfl,rfl⟩;refine⟨rfl,rfl,?_⟩;refine⟨_,aZ 13 rfl rfl (by decide),?_⟩;rintro r hs ⟨rfl,rfl⟩;refine⟨rfl,rfl,?_⟩;refine⟨_,aZ 32 rfl rfl (by decide),?_⟩;rintro r hs ⟨rfl,rfl⟩;refine⟨rfl,rfl,?_⟩;exact⟨congrArg _ (ZB hx),rfl⟩
open Go.RX Go.Proofs
theorem Bu(a:Nat):ax .rem .u64 (a:Int) 4294967296=((a%2^32:Nat):Int):=Cr a (2^32)
theorem mZ{a b:Nat}(h:a+b<2^64):ae .u64 ((a:Int)+(b:Int))=((a+b:Nat):Int):=by rw [←Int.natCast_add,wrap64 h]
theorem Oo{a b:Nat}(ha:a<2^32)(hb:b<2^32):ax .eT .u64 (a:Int) (b:Int)=((a &&& b:Nat):Int):=VJ (Nat.lt_trans ha (by decide)) (Nat.lt_trans hb (by decide))
theorem ZC{x y z:Nat}(hx:x<2^32)(hy:y<2^32)(hz:z<2^32):ax .cr .u64 (ax .eT .u64 (x:Int) (y:Int)) (ax .eT .u64 (ae .u64 (4294967295 - (x:Int))) (z:Int))=((ch x y z:Nat):Int):=by
 have h1:ae .u64 (4294967295 - (x:Int))=((2^32 - 1 - x:Nat):Int):=by
  rw [show(4294967295:Int) - (x:Int)=((2^32 - 1 - x:Nat):Int) by omega,wrap64 (by omega)]
 rw [h1,Oo hx hy,Oo (by omega) hz,zy (e8 hx) (e8 (by omega))];rfl
theorem VX{x y z:Nat}(hx:x<2^32)(hy:y<2^32)(hz:z<2^32):ax .cr .u64 (ax .cr .u64 (ax .eT .u64 (x:Int) (y:Int)) (ax .eT .u64 (x:Int) (z:Int))) (ax .eT .u64 (y:Int) (z:Int))=((RC x y z:Nat):Int):=by
 rw [Oo hx hy,Oo hx hz,Oo hy hz,zy (e8 hx) (e8 hx),zy (eZ (e8 hx) (e8 hx)) (e8 hy)];rfl
theorem Oq{v:Nat→Nat}(hv: ∀j,j<8→v j<2^32){k w:Nat}(hk:k<2^32)(hw:w<2^32):
  (ax .rem .u64 (ae .u64 ((ae .u64 ((ae .u64 ((ae .u64 (((v 7:Nat):Int)+((S1 (v 4):Nat):Int)))+(ax .cr .u64 (ax .eT .u64 ((v 4:Nat):Int) ((v 5:Nat):Int)) (ax .eT .u64 (ae .u64 (4294967295 - ((v 4:Nat):Int))) ((v 6:Nat):Int)))))+(k:Int)))+(w:Int))) 4294967296)=((temp v k w:Nat):Int):=by
 have a1:=VN (hv 4 (by omega));have a2:=VO (y:=v 5) (z:=v 6) (hv 4 (by omega));have a3:=hv 7 (by omega);rw [ZC (hv 4 (by omega)) (hv 5 (by omega)) (hv 6 (by omega))];unfold temp;generalize S1 (v 4)=s at*;generalize ch (v 4) (v 5) (v 6)=c at*;generalize v 7=a at*;rw [mZ (by omega),mZ (by omega),mZ (by omega),mZ (by omega),Bu]
theorem TB{v:Nat→Nat}(hv: ∀j,j<8→v j<2^32){k w:Nat}(hk:k<2^32)(hw:w<2^32):
  (ax .rem .u64 (ae .u64 ((ax .rem .u64 (ae .u64 ((ae .u64 ((ae .u64 ((ae .u64 (((v 7:Nat):Int)+((S1 (v 4):Nat):Int)))+(ax .cr .u64 (ax .eT .u64 ((v 4:Nat):Int) ((v 5:Nat):Int)) (ax .eT .u64 (ae .u64 (4294967295 - ((v 4:Nat):Int))) ((v 6:Nat):Int)))))+(k:Int)))+(w:Int))) 4294967296)+(ax .rem .u64 (ae .u64 (((S0 (v 0):Nat):Int)+(ax .cr .u64 (ax .cr .u64 (ax .eT .u64 ((v 0:Nat):Int) ((v 1:Nat):Int)) (ax .eT .u64 ((v 0:Nat):Int) ((v 2:Nat):Int))) (ax .eT .u64 ((v 1:Nat):Int) ((v 2:Nat):Int))))) 4294967296))) 4294967296)=((step v k w 0:Nat):Int):=by
 rw [NV,Oq hv hk hw,VX (hv 0 (by omega)) (hv 1 (by omega)) (hv 2 (by omega))];have a0:temp v k w<2^32:=Nat.mod_lt _ (Nat.two_pow_pos 32);have a1:=VM (hv 0 (by omega));have a2:=Tt (z:=v 2) (hv 0 (by omega)) (hv 1 (by omega));generalize temp v k w=t at*;generalize S0 (v 0)=s at*;generalize RC (v 0) (v 1) (v 2)=m at*;have a3:(s+m)%2^32<2^32:=Nat.mod_lt _ (Nat.two_pow_pos 32);rw [mZ (by omega),Bu,mZ (by omega),Bu]
theorem TC{v:Nat→Nat}(hv: ∀j,j<8→v j<2^32){k w:Nat}(hk:k<2^32)(hw:w<2^32):
  (ax .rem .u64 (ae .u64 (((v 3:Nat):Int)+(ax .rem .u64 (ae .u64 ((ae .u64 ((ae .u64 ((ae .u64 (((v 7:Nat):Int)+((S1 (v 4):Nat):Int)))+(ax .cr .u64 (ax .eT .u64 ((v 4:Nat):Int) ((v 5:Nat):Int)) (ax .eT .u64 (ae .u64 (4294967295 - ((v 4:Nat):Int))) ((v 6:Nat):Int)))))+(k:Int)))+(w:Int))) 4294967296))) 4294967296)=((step v k w 4:Nat):Int):=by
 rw [NW,Oq hv hk hw];have a0:temp v k w<2^32:=Nat.mod_lt _ (Nat.two_pow_pos 32);have a1:=hv 3 (by omega);generalize temp v k w=t at*;rw [mZ (by omega),Bu]
abbrev I3(b:Nat)(v:Nat→Nat):HP:=ak b true [.int .u64 ((v 0:Nat):Int),.int .u64 ((v 1:Nat):Int),.int .u64 ((v 2:Nat):Int),.int .u64 ((v 3:Nat):Int),.int .u64 ((v 4:Nat):Int),.int .u64 ((v 5:Nat):Int),.int .u64 ((v 6:Nat):Int),.int .u64 ((v 7:Nat):Int)]
theorem Fv(v0:V1)(A0:Nat→Int)(v:Nat→Nat)(k w:Nat)(hA: ∀j,j<8→A0 j=((v j:Nat):Int))(hv: ∀j,j<8→v j<2^32)(hk:k<2^32)(hw:w<2^32):
  aq adY 134 [v0.v,.int .u64 (k:Int),.int .u64 (w:Int),.int .i64 32] [aB true 70 1 v0.v 8 (aH 8 [au .u64 1 A0])]
   (fun r hs=> ∃b:Nat,r= .slice (some ⟨b,0,none⟩) 8 8∧hs=[aB true 70 1 v0.v 8 (aH 8 [au .u64 1 A0]),I3 b (step v k w)]):=by
 refine aq.eA (C:=cx) (aQ:={v:=1,i:=2,a:=1}) (ρ:={iv:=[(k:Int),(w:Int)],av:=[A0],vv:=[v0]}) pA gw pB Try.func134 (by constructor<;>rfl)
  (args:=([Go.RX.SV.vv 0,Go.RX.SV.int (ad4) (Go.RX.E.var 0),Go.RX.SV.int (ad4) (Go.RX.E.var 1),Go.RX.SV.int (adL) (Go.RX.E.lit 32)])) (hp:=([Go.RX.Ck.cc true 0 70 1 (Go.RX.E.lit 8) [{ck:=Go.RX.CK.int (ad4),w:=1,a:=Go.RX.E.aw 0}]])) ?_
 rw [show cC cx 134 ([Go.RX.SV.vv 0,Go.RX.SV.int (ad4) (Go.RX.E.var 0),Go.RX.SV.int (ad4) (Go.RX.E.var 1),Go.RX.SV.int (adL) (Go.RX.E.lit 32)]) ([Go.RX.Ck.cc true 0 70 1 (Go.RX.E.lit 8) [{ck:=Go.RX.CK.int (ad4),w:=1,a:=Go.RX.E.aw 0}]]) {v:=1,i:=2,a:=1} Try.f134=zw from La,Og];unfold Fi;rw [hA 0 (by omega),hA 1 (by omega),hA 2 (by omega),hA 3 (by omega),hA 4 (by omega),hA 5 (by omega),hA 6 (by omega),hA 7 (by omega)];refine⟨_,aZ 32 rfl rfl (by decide),?_⟩;rintro r hs ⟨rfl,rfl⟩;refine⟨rfl,rfl,?_⟩;refine⟨_,Fq (v 4) (hv 4 (by omega)),?_⟩;rintro r hs ⟨rfl,rfl⟩;refine⟨_,rfl,rfl,?_⟩;refine⟨_,aZ 32 rfl rfl (by decide),?_⟩;rintro r hs ⟨rfl,rfl⟩;refine⟨rfl,rfl,?_⟩;refine⟨_,Fp (v 0) (hv 0 (by omega)),?_⟩;rintro r hs ⟨rfl,rfl⟩;refine⟨_,rfl,rfl,?_⟩;refine⟨_,aZ 32 rfl rfl (by decide),?_⟩;rintro r hs ⟨rfl,rfl⟩;refine⟨rfl,rfl,?_⟩;refine⟨_,aZ 32 rfl rfl (by decide),?_⟩;rintro r hs ⟨rfl,rfl⟩;refine⟨rfl,rfl,?_⟩;refine⟨_,aZ 32 rfl rfl (by decide),?_⟩;rintro r hs ⟨rfl,rfl⟩;refine⟨rfl,rfl,?_⟩;intro b0;rw [TB hv hk hw,TC hv hk hw];refine⟨b0,rfl,?_⟩;unfold I3;rw [kL v k w (j:=1) (by decide) (by decide) (by decide),kL v k w (j:=2) (by decide) (by decide) (by decide),kL v k w (j:=3) (by decide) (by decide) (by decide),kL v k w (j:=5) (by decide) (by decide) (by decide),
  kL v k w (j:=6) (by decide) (by decide) (by decide),kL v k w (j:=7) (by decide) (by decide) (by decide)]
end Go.RX.Sh

namespace Go.RX
theorem Ot{b t s n:Nat}{cs:List Value}(hl:cs.length=n*s)(hn:n≤maxLen)(w:World)(S:Nat→Prop)(h:(ak b true cs).p w S):(aB true t s (.slice (some ⟨b,0,none⟩) n n) n cs).p w S:=by
 obtain⟨h1,ty,fz,h2,h3⟩:=h;have h4:=h3 rfl;subst h4;refine⟨?_,fun k=>?_⟩
 ·simp only [if_true];refine⟨hl,.inr ⟨b,0,n,cs.toArray,rfl,⟨ty,_,h2,pH.zero _⟩,Nat.le_refl _,hn,fun _=>?_,?_⟩⟩
  ·simp [hl]
  ·rw [List.drop_zero,←hl];exact List.take_length
 ·rw [h1 k];simp [Value.ownBlock,eq_comm]
theorem aD.Ou{a:List HP}(i:Nat){b t s n:Nat}{cs:List Value}(hi:a[i]? =some (ak b true cs))(hl:cs.length=n*s)(hn:n≤maxLen):aD a (a.set i (aB true t s (.slice (some ⟨b,0,none⟩) n n) n cs)):=
 aD.put i _ _ hi (fun _=>rfl) fun w S h=>⟨S,fun _ h=>h,Ot hl hn w S h⟩
end Go.RX
namespace Go.RX.Sh
open Go.RX Go.Proofs
def C64:List Nat:=[4794697086780616226,8158064640168781261,13096744586834688815,16840607885511220156,4131703408338449720,6480981068601479193,10538285296894168987,12329834152419229976,15566598209576043074,1334009975649890238,2608012711638119052,6128411473006802146,8268148722764581231,9286055187155687089,11230858885718282805,13951009754708518548,16472876342353939154,17275323862435702243,1135362057144423861,2597628984639134821,3308224258029322869,5365058923640841347,6679025012923562964,8573033837759648693,10970295158949994411,12119686244451234320,12683024718118986047,13788192230050041572,14330467153632333762,15395433587784984357,489312712824947311,1452737877330783856,2861767655752347644,3322285676063803686,5560940570517711597,5996557281743188959,7280758554555802590,8532644243296465576,9350256976987008742,10552545826968843579,11727347734174303076,12113106623233404929,14000437183269869457,14369950271660146224,15101387698204529176,15463397548674623760,17586052441742319658,1182934255886127544,1847814050463011016,2177327727835720531,2830643537854262169,3796741975233480872,4115178125766777443,5681478168544905931,6601373596472566643,7507060721942968483,8399075790359081724,8693463985226723168,9568029438360202098,10144078919501101548,10430055236837252648,11840083180663258601,13761210420658862357,14299343276471374635,14566680578165727644,15097957966210449927,16922976911328602910,17689382322260857208,500013540394364858,748580250866718886,1242879168328830382,1977374033974150939,2944078676154940804,3659926193048069267,4368137639120453308,4836135668995329356,5532061633213252278,6448918945643986474,6902733635092675308,7801388544844847127]
def C0(j:Nat):Nat:=C64.getD j 0
theorem CA:aq adY 129 [] [] (fun r hs=> ∃v:V1,∃A:Nat→Int,r=v.v∧hs=[aB true 70 1 v.v 80 (aH 80 [au .u64 1 A])]∧∀j,j<64→ae .u64 (ax .quo .u64 (A j) 4294967296)=((K0 j:Nat):Int)):=by
 refine aq.post (p:=fun r hs=> ∃b:Nat,r= .slice (some ⟨b,0,none⟩) 80 80∧hs=[ak b true (aH 80 [au .u64 1 fun j=>((C0 j:Nat):Int)])]) ?_ ?_
 ·refine aq.eA (C:=cx) (aQ:={}) (ρ:={}) pA gw pB Try.func129 (by constructor<;>rfl) (args:=[]) (hp:=[]) ?_;rw [show cC cx 129 [] [] {} Try.f129=vj from Hy,Lf];unfold Bv;intro b0;refine⟨b0,rfl,congrArg (fun c=>[ak b0 true c]) ?_⟩
  kernel_rfl
 ·rintro r hs ⟨b,rfl,rfl⟩;exact⟨_,aD.Ou (t:=70) (s:=1) (n:=80) 0 rfl (by kernel_rfl) (by decide),⟨.slice (some ⟨b,0,none⟩) 80 80,rfl⟩,_,rfl,rfl,by decide+kernel⟩
theorem Ov{A0:Nat→Int}{I O N:Nat→Nat}{d0 d1 d2 d3:Nat}(hA: ∀j,j<96→A0 j=((msg I O N d0 d1 d2 d3 j:Nat):Int))(j:Nat)(hj:j<128):
  (aW (aj (aj (aj (aj (aj (aj (aj (aj (aj (aj (aj (aj (aj (aj (aj (aj (aj (aj (aj (aj (aj (aj (aj (aj A0 96 128) 97 0) 98 0) 99 0) 100 0) 101 0) 102 0) 103 0) 104 0) 105 0) 106 0) 107 0) 108 0) 109 0) 110 0) 111 0) 112 0) 113 0) 114 0) 115 0) 116 0) 117 0) 118 0) 119 0) 120 8 (aj (aj (aj (aj (aj (aj (aj (aj (fun _=>0) 7 0) 6 3) 5 0) 4 0) 3 0) 2 0) 1 0) 0 0)) j=((msg I O N d0 d1 d2 d3 j:Nat):Int):=by
 by_cases c:j<96
 ·rw [uc (by omega)];rw [bE (by omega),bE (by omega),bE (by omega),bE (by omega),bE (by omega),bE (by omega),bE (by omega),bE (by omega),bE (by omega),bE (by omega),bE (by omega),bE (by omega),bE (by omega),bE (by omega),bE (by omega),bE (by omega),bE (by omega),bE (by omega),bE (by omega),bE (by omega),bE (by omega),bE (by omega),bE (by omega),bE (by omega)];exact hA j c
 ·have:j=96∨j=97∨j=98∨j=99∨j=100∨j=101∨j=102∨j=103∨j=104∨j=105∨j=106∨j=107∨j=108∨j=109∨j=110∨j=111∨j=112∨j=113∨j=114∨j=115∨j=116∨j=117∨j=118∨j=119∨j=120∨j=121∨j=122∨j=123∨j=124∨j=125∨j=126∨j=127:=by omega
  clear hj c;rcases this with rfl | rfl | rfl | rfl | rfl | rfl | rfl | rfl | rfl | rfl | rfl | rfl | rfl | rfl | rfl | rfl | rfl | rfl | rfl | rfl | rfl | rfl | rfl | rfl | rfl | rfl | rfl | rfl | rfl | rfl | rfl | rfl<;>rfl
theorem CB(v0:V1)(A0:Nat→Int)(I O N:Nat→Nat)(d0 d1 d2 d3:Nat)(hA: ∀j,j<96→A0 j=((msg I O N d0 d1 d2 d3 j:Nat):Int)):
  aq adY 131 [v0.v,.int .i64 32] [aB true 5 1 v0.v 96 (aH 96 [au .u8 1 A0])]
   (fun r hs=> ∃v:V1,∃A:Nat→Int,r=v.v∧hs=[aB true 5 1 v0.v 96 (aH 96 [au .u8 1 A0]),aB true 5 1 v.v 128 (aH 128 [au .u8 1 A])]∧∀j,j<128→A j=((msg I O N d0 d1 d2 d3 j:Nat):Int)):=by
 refine aq.post (p:=fun r hs=> ∃gN,aD hs gN∧∃v:V1,∃A:Nat→Int,r=v.v∧gN=[aB true 5 1 v0.v 96 (aH 96 [au .u8 1 A0]),aB true 5 1 v.v 128 (aH 128 [au .u8 1 A])]∧∀j,j<128→A j=((msg I O N d0 d1 d2 d3 j:Nat):Int)) ?_ fun v hs h=>h
 refine aq.eA (C:=cx) (aQ:={v:=1,a:=1}) (ρ:={av:=[A0],vv:=[v0]}) pA gw pB Try.func131 (by constructor<;>rfl)
  (args:=([Go.RX.SV.vv 0,Go.RX.SV.int (adL) (Go.RX.E.lit 32)])) (hp:=([Go.RX.Ck.cc true 0 5 1 (Go.RX.E.lit 96) [{ck:=Go.RX.CK.int (adG),w:=1,a:=Go.RX.E.aw 0}]])) ?_
 rw [show cC cx 131 ([Go.RX.SV.vv 0,Go.RX.SV.int (adL) (Go.RX.E.lit 32)]) ([Go.RX.Ck.cc true 0 5 1 (Go.RX.E.lit 96) [{ck:=Go.RX.CK.int (adG),w:=1,a:=Go.RX.E.aw 0}]]) {v:=1,a:=1} Try.f131=vl from Hz,Lg];unfold Bw
 intros
 exact⟨_,aD.sub (List.sublist_append_left [_,_] _),_,_,rfl,rfl,Ov hA⟩
theorem Lh(v0:V1)(A0:Nat→Int)(v:Nat→Nat)(k w:Nat)(hA: ∀j,j<8→A0 j=((v j:Nat):Int))(hv: ∀j,j<8→v j<2^32)(hk:k<2^32)(hw:w<2^32):
  aq adY 134 [v0.v,.int .u64 (k:Int),.int .u64 (w:Int),.int .i64 32] [aB true 70 1 v0.v 8 (aH 8 [au .u64 1 A0])]
   (fun r hs=> ∃v1:V1,∃A:Nat→Int,r=v1.v∧hs=[aB true 70 1 v1.v 8 (aH 8 [au .u64 1 A])]∧∀j,j<8→A j=((step v k w j:Nat):Int)):=by
 refine aq.post (Fv v0 A0 v k w hA hv hk hw) ?_;rintro r hs ⟨b,rfl,rfl⟩;refine⟨_,aD.trans (aD.sub (List.sublist_cons_self _ _)) (aD.Ou (t:=70) (s:=1) (n:=8) 0 rfl rfl (by decide)),⟨.slice (some ⟨b,0,none⟩) 8 8,rfl⟩,fun j=>((step v k w j:Nat):Int),rfl,?_,fun _ _=>rfl⟩;rfl
end Go.RX.Sh
