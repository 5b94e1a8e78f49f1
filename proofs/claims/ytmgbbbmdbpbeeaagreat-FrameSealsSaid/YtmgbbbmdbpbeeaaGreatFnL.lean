/- Sums. -/
import Derived.Test.YtmgbbbmdbpbeeaaGreatFnF
open Go.IntKind renaming wrap → ae
open Go.Proofs.Tryz renaming prog → ae0
open Int renaming natCast_add → afy
open List renaming getD_cons_succ → aeW, getD_cons_zero → ah
open List.cons renaming injEq → ae8
open Nat renaming mod_eq_of_lt → afp, mod_lt → afI
namespace Go.RX
theorem LV{b t s n:Nat}{cs:List Value}(hl:cs.length=n*s)(hn:n≤maxLen)(w:World)(S:Nat→Prop)(h:(ax b true cs).p w S):(aE true t s (.slice (some ⟨b,0,none⟩) n n) n cs).p w S:=by
 obtain⟨h1,ty,fz,h2,h3⟩:=h;have h4:=h3 rfl;subst h4;refine⟨?_,fun k=>?_⟩
 ·simp only [if_true];refine⟨hl,.inr ⟨b,0,n,cs.toArray,rfl,⟨ty,h2⟩,Nat.le_refl _,hn,fun _=>?_,?_⟩⟩
  ·simp [hl]
  ·rw [List.drop_zero,←hl];exact List.take_length
 ·rw [h1 k];simp [Value.ownBlock,eq_comm]
theorem bX.LW{a:List HP}(i:Nat){b t s n:Nat}{cs:List Value}(hi:a[i]? =some (ax b true cs))(hl:cs.length=n*s)(hn:n≤maxLen):bX a (a.set i (aE true t s (.slice (some ⟨b,0,none⟩) n n) n cs)):=
 bX.put i _ _ hi (fun _=>rfl) fun w S h=>⟨S,fun _ h=>h,LV hl hn w S h⟩
end Go.RX
namespace Go.RX.Fn
open Go Go.RX Go.Proofs Go.RX.Sh Go.RX.Fg Go.RX.Fj Go.RX.Fk
theorem PB(a b:Nat):ak .quo .u64 (a:Int) (b:Int)=((a/b:Nat):Int):=rfl
theorem Bc(a b:Nat):ak .rem .u64 (a:Int) (b:Int)=((a%b:Nat):Int):=rfl
theorem wrap64{n:Nat}(h:n<2^64):ae .u64 (n:Int)=(n:Int):=by rw [wrap_u64,afp h]
theorem HI{x n:Nat}(hx:x<2^32):ae .u64 (ak .quo .u64 (x:Int) ((2^n:Nat):Int))=((x/2^n:Nat):Int):=by
 rw [PB,wrap64 (Nat.lt_trans (pV hx) (by decide))]
theorem qC{x n:Nat}(hx:x<2^32)(hn:n≤32):
  ae .u64 (ae .u64 (ak .quo .u64 (x:Int) ((2^n:Nat):Int))+ak .rem .u64 (ae .u64 ((x:Int)*((2^(32 - n):Nat):Int))) ((2^32:Nat):Int))=((fj x n:Nat):Int):=by
 have h2:x*2^(32 - n)<2^64:=by
  have h3:2^(32 - n)≤2^32:=Nat.pow_le_pow_right (by decide) (by omega);have h4:x*2^(32 - n)≤x*2^32:=Nat.mul_le_mul_left _ h3;omega
 have h5:=cr hx hn;unfold fj at h5 ⊢;rw [HI hx,←Int.natCast_mul,wrap64 h2,Bc,←afy,wrap64 (Nat.lt_trans h5 (by decide))]
theorem xd{a b:Nat}(ha:a<2^32)(hb:b<2^32):ak .ay .u64 (a:Int) (b:Int)=((a^^^b:Nat):Int):=HJ (Nat.lt_trans ha (by decide)) (Nat.lt_trans hb (by decide))
theorem jO(n:Nat)(hn:n≤32):aw ae0 158 [.int .i64 (n:Int)] [] (fun r hs=>r= .int .u64 ((2^n:Nat):Int)∧hs=[]):=by
 refine wP _ (n:Int) ?_;unfold oQ;refine⟨fun e=> ∃a:Nat,a≤n∧e.i=[((2^a:Nat):Int),(a:Int)],fun e=>((n:Int) - e.i.getD 1 0).toNat,⟨_,_,rfl,rfl,0,by omega,rfl⟩,?_⟩;rintro x1 x2 ⟨a,ha,hx⟩;simp only [ae8,and_true]at hx;obtain⟨rfl,rfl⟩:=hx;refine⟨fun bU=>⟨by omega,fun _=>⟨by omega,fun _=>⟨_,_,rfl,rfl,⟨a+1,by omega,?_⟩,?_⟩⟩⟩,fun iH=>⟨?_,rfl⟩⟩
 ·have h1:2^(a+1)≤2^32:=Nat.pow_le_pow_right (by decide) (by omega);have h2:ae .u64 (2*((2^a:Nat):Int))=((2^(a+1):Nat):Int):=by
   rw [show(2:Int)*((2^a:Nat):Int)=((2^(a+1):Nat):Int) by rw [Nat.pow_succ,Nat.mul_comm,Int.natCast_mul];rfl];exact wrap64 (Nat.lt_of_le_of_lt h1 (by decide))
  rw [h2,afy];rfl
 ·simp only [ah,aeW];omega
 ·rw [show a=n by omega]
theorem bj(n:Nat){m p:Int}(hm:(n:Int)=m)(hp:((2^n:Nat):Int)=p)(hn:n≤32):aw ae0 158 [.int .i64 m] [] (fun r hs=>r= .int .u64 p∧hs=[]):=by
 subst hm;subst hp;exact jO n hn
theorem Yb{x:Nat}(hx:x<2^32):(ak .ay .u64 (ak .ay .u64 (ae .u64 ((ae .u64 (ak .quo .u64 (x:Int) 4))+(ak .rem .u64 (ae .u64 ((x:Int)*1073741824)) 4294967296))) (ae .u64 ((ae .u64 (ak .quo .u64 (x:Int) 8192))+(ak .rem .u64 (ae .u64 ((x:Int)*524288)) 4294967296)))) (ae .u64 ((ae .u64 (ak .quo .u64 (x:Int) 4194304))+(ak .rem .u64 (ae .u64 ((x:Int)*1024)) 4294967296))))=((S0 x:Nat):Int):=by
 have r0:ae .u64 ((ae .u64 (ak .quo .u64 (x:Int) 4))+(ak .rem .u64 (ae .u64 ((x:Int)*1073741824)) 4294967296))=((fj x 2:Nat):Int):=qC (n:=2) hx (by decide);have l0:fj x 2<2^32:=cr hx (by decide);have r1:ae .u64 ((ae .u64 (ak .quo .u64 (x:Int) 8192))+(ak .rem .u64 (ae .u64 ((x:Int)*524288)) 4294967296))=((fj x 13:Nat):Int):=qC (n:=13) hx (by decide);have l1:fj x 13<2^32:=cr hx (by decide);have r2:ae .u64 ((ae .u64 (ak .quo .u64 (x:Int) 4194304))+(ak .rem .u64 (ae .u64 ((x:Int)*1024)) 4294967296))=((fj x 22:Nat):Int):=qC (n:=22) hx (by decide);have l2:fj x 22<2^32:=cr hx (by decide);rw [r0,r1,r2,xd l0 l1,xd (eE l0 l1) l2];rfl
theorem Dn(x:Nat)(hx:x<2^32):aw ae0 161 [.int .i64 0,.int .u64 (x:Int),.int .i64 32] [] (fun r hs=>r= .int .u64 ((S0 x:Nat):Int)∧hs=[]):=by
 refine LN _ (x:Int) ?_;unfold Dg;refine⟨_,bj 22 rfl rfl (by decide),?_⟩;rintro r hs ⟨rfl,rfl⟩;refine⟨rfl,rfl,?_⟩;refine⟨_,bj 22 rfl rfl (by decide),?_⟩;rintro r hs ⟨rfl,rfl⟩;refine⟨rfl,rfl,?_⟩;refine⟨_,bj 10 rfl rfl (by decide),?_⟩;rintro r hs ⟨rfl,rfl⟩;refine⟨rfl,rfl,?_⟩;refine⟨_,bj 32 rfl rfl (by decide),?_⟩;rintro r hs ⟨rfl,rfl⟩;refine⟨rfl,rfl,?_⟩;refine⟨_,bj 2 rfl rfl (by decide),?_⟩;rintro r hs ⟨rfl,rfl⟩;refine⟨rfl,rfl,?_⟩;refine⟨_,bj 30 rfl rfl (by decide),?_⟩;rintro r hs ⟨rfl,rfl⟩;refine⟨rfl,rfl,?_⟩;refine⟨_,bj 32 rfl rfl (by decide),?_⟩;rintro r hs ⟨rfl,rfl⟩;refine⟨rfl,rfl,?_⟩;refine⟨_,bj 13 rfl rfl (by decide),?_⟩;rintro r hs ⟨rfl,rfl⟩;refine⟨rfl,rfl,?_⟩;refine⟨_,bj 19 rfl rfl (by decide),?_⟩;rintro r hs ⟨rfl,rfl⟩;refine⟨rfl,rfl,?_⟩;refine⟨_,bj 32 rfl rfl (by decide),?_⟩;rintro r hs ⟨rfl,rfl⟩;refine⟨rfl,rfl,?_⟩;exact⟨congrArg _ (Yb hx),rfl⟩
theorem Yc{x:Nat}(hx:x<2^32):(ak .ay .u64 (ak .ay .u64 (ae .u64 ((ae .u64 (ak .quo .u64 (x:Int) 64))+(ak .rem .u64 (ae .u64 ((x:Int)*67108864)) 4294967296))) (ae .u64 ((ae .u64 (ak .quo .u64 (x:Int) 2048))+(ak .rem .u64 (ae .u64 ((x:Int)*2097152)) 4294967296)))) (ae .u64 ((ae .u64 (ak .quo .u64 (x:Int) 33554432))+(ak .rem .u64 (ae .u64 ((x:Int)*128)) 4294967296))))=((S1 x:Nat):Int):=by
 have r0:ae .u64 ((ae .u64 (ak .quo .u64 (x:Int) 64))+(ak .rem .u64 (ae .u64 ((x:Int)*67108864)) 4294967296))=((fj x 6:Nat):Int):=qC (n:=6) hx (by decide);have l0:fj x 6<2^32:=cr hx (by decide);have r1:ae .u64 ((ae .u64 (ak .quo .u64 (x:Int) 2048))+(ak .rem .u64 (ae .u64 ((x:Int)*2097152)) 4294967296))=((fj x 11:Nat):Int):=qC (n:=11) hx (by decide);have l1:fj x 11<2^32:=cr hx (by decide);have r2:ae .u64 ((ae .u64 (ak .quo .u64 (x:Int) 33554432))+(ak .rem .u64 (ae .u64 ((x:Int)*128)) 4294967296))=((fj x 25:Nat):Int):=qC (n:=25) hx (by decide);have l2:fj x 25<2^32:=cr hx (by decide);rw [r0,r1,r2,xd l0 l1,xd (eE l0 l1) l2];rfl
theorem Dp(x:Nat)(hx:x<2^32):aw ae0 161 [.int .i64 1,.int .u64 (x:Int),.int .i64 32] [] (fun r hs=>r= .int .u64 ((S1 x:Nat):Int)∧hs=[]):=by
 refine LO _ (x:Int) ?_;unfold Dh;refine⟨_,bj 25 rfl rfl (by decide),?_⟩;rintro r hs ⟨rfl,rfl⟩;refine⟨rfl,rfl,?_⟩;refine⟨_,bj 25 rfl rfl (by decide),?_⟩;rintro r hs ⟨rfl,rfl⟩;refine⟨rfl,rfl,?_⟩;refine⟨_,bj 7 rfl rfl (by decide),?_⟩;rintro r hs ⟨rfl,rfl⟩;refine⟨rfl,rfl,?_⟩;refine⟨_,bj 32 rfl rfl (by decide),?_⟩;rintro r hs ⟨rfl,rfl⟩;refine⟨rfl,rfl,?_⟩;refine⟨_,bj 6 rfl rfl (by decide),?_⟩;rintro r hs ⟨rfl,rfl⟩;refine⟨rfl,rfl,?_⟩;refine⟨_,bj 26 rfl rfl (by decide),?_⟩;rintro r hs ⟨rfl,rfl⟩;refine⟨rfl,rfl,?_⟩;refine⟨_,bj 32 rfl rfl (by decide),?_⟩;rintro r hs ⟨rfl,rfl⟩;refine⟨rfl,rfl,?_⟩;refine⟨_,bj 11 rfl rfl (by decide),?_⟩;rintro r hs ⟨rfl,rfl⟩;refine⟨rfl,rfl,?_⟩;refine⟨_,bj 21 rfl rfl (by decide),?_⟩;rintro r hs ⟨rfl,rfl⟩;refine⟨rfl,rfl,?_⟩;refine⟨_,bj 32 rfl rfl (by decide),?_⟩;rintro r hs ⟨rfl,rfl⟩;refine⟨rfl,rfl,?_⟩;exact⟨congrArg _ (Yc hx),rfl⟩
theorem Yd{x:Nat}(hx:x<2^32):(ak .ay .u64 (ak .ay .u64 (ae .u64 ((ae .u64 (ak .quo .u64 (x:Int) 128))+(ak .rem .u64 (ae .u64 ((x:Int)*33554432)) 4294967296))) (ae .u64 ((ae .u64 (ak .quo .u64 (x:Int) 262144))+(ak .rem .u64 (ae .u64 ((x:Int)*16384)) 4294967296)))) (ae .u64 (ak .quo .u64 (x:Int) 8)))=((s0 x:Nat):Int):=by
 have r0:ae .u64 ((ae .u64 (ak .quo .u64 (x:Int) 128))+(ak .rem .u64 (ae .u64 ((x:Int)*33554432)) 4294967296))=((fj x 7:Nat):Int):=qC (n:=7) hx (by decide);have l0:fj x 7<2^32:=cr hx (by decide);have r1:ae .u64 ((ae .u64 (ak .quo .u64 (x:Int) 262144))+(ak .rem .u64 (ae .u64 ((x:Int)*16384)) 4294967296))=((fj x 18:Nat):Int):=qC (n:=18) hx (by decide);have l1:fj x 18<2^32:=cr hx (by decide);have r2:ae .u64 (ak .quo .u64 (x:Int) 8)=((x/2^3:Nat):Int):=HI (n:=3) hx;have l2:x/2^3<2^32:=pV hx;rw [r0,r1,r2,xd l0 l1,xd (eE l0 l1) l2];rfl
theorem Dq(x:Nat)(hx:x<2^32):aw ae0 161 [.int .i64 2,.int .u64 (x:Int),.int .i64 32] [] (fun r hs=>r= .int .u64 ((s0 x:Nat):Int)∧hs=[]):=by
 refine LP _ (x:Int) ?_;unfold Di;refine⟨_,bj 3 rfl rfl (by decide),?_⟩;rintro r hs ⟨rfl,rfl⟩;refine⟨rfl,rfl,?_⟩;refine⟨_,bj 7 rfl rfl (by decide),?_⟩;rintro r hs ⟨rfl,rfl⟩;refine⟨rfl,rfl,?_⟩;refine⟨_,bj 25 rfl rfl (by decide),?_⟩;rintro r hs ⟨rfl,rfl⟩;refine⟨rfl,rfl,?_⟩;refine⟨_,bj 32 rfl rfl (by decide),?_⟩;rintro r hs ⟨rfl,rfl⟩;refine⟨rfl,rfl,?_⟩;refine⟨_,bj 18 rfl rfl (by decide),?_⟩;rintro r hs ⟨rfl,rfl⟩;refine⟨rfl,rfl,?_⟩;refine⟨_,bj 14 rfl rfl (by decide),?_⟩;rintro r hs ⟨rfl,rfl⟩;refine⟨rfl,rfl,?_⟩;refine⟨_,bj 32 rfl rfl (by decide),?_⟩;rintro r hs ⟨rfl,rfl⟩;refine⟨rfl,rfl,?_⟩;exact⟨congrArg _ (Yd hx),rfl⟩
theorem Ye{x:Nat}(hx:x<2^32):(ak .ay .u64 (ak .ay .u64 (ae .u64 ((ae .u64 (ak .quo .u64 (x:Int) 131072))+(ak .rem .u64 (ae .u64 ((x:Int)*32768)) 4294967296))) (ae .u64 ((ae .u64 (ak .quo .u64 (x:Int) 524288))+(ak .rem .u64 (ae .u64 ((x:Int)*8192)) 4294967296)))) (ae .u64 (ak .quo .u64 (x:Int) 1024)))=((s1 x:Nat):Int):=by
 have r0:ae .u64 ((ae .u64 (ak .quo .u64 (x:Int) 131072))+(ak .rem .u64 (ae .u64 ((x:Int)*32768)) 4294967296))=((fj x 17:Nat):Int):=qC (n:=17) hx (by decide);have l0:fj x 17<2^32:=cr hx (by decide);have r1:ae .u64 ((ae .u64 (ak .quo .u64 (x:Int) 524288))+(ak .rem .u64 (ae .u64 ((x:Int)*8192)) 4294967296))=((fj x 19:Nat):Int):=qC (n:=19) hx (by decide);have l1:fj x 19<2^32:=cr hx (by decide);have r2:ae .u64 (ak .quo .u64 (x:Int) 1024)=((x/2^10:Nat):Int):=HI (n:=10) hx;have l2:x/2^10<2^32:=pV hx;rw [r0,r1,r2,xd l0 l1,xd (eE l0 l1) l2];rfl
theorem Dr(x:Nat)(hx:x<2^32):aw ae0 161 [.int .i64 3,.int .u64 (x:Int),.int .i64 32] [] (fun r hs=>r= .int .u64 ((s1 x:Nat):Int)∧hs=[]):=by
 refine LQ _ (x:Int) ?_;unfold Dj;refine⟨_,bj 10 rfl rfl (by decide),?_⟩;rintro r hs ⟨rfl,rfl⟩;refine⟨rfl,rfl,?_⟩;refine⟨_,bj 17 rfl rfl (by decide),?_⟩;rintro r hs ⟨rfl,rfl⟩;refine⟨rfl,rfl,?_⟩;refine⟨_,bj 15 rfl rfl (by decide),?_⟩;rintro r hs ⟨rfl,rfl⟩;refine⟨rfl,rfl,?_⟩;refine⟨_,bj 32 rfl rfl (by decide),?_⟩;rintro r hs ⟨rfl,rfl⟩;refine⟨rfl,rfl,?_⟩;refine⟨_,bj 19 rfl rfl (by decide),?_⟩;rintro r hs ⟨rfl,rfl⟩;refine⟨rfl,rfl,?_⟩;refine⟨_,bj 13 rfl rfl (by decide),?_⟩;rintro r hs ⟨rfl,rfl⟩;refine⟨rfl,rfl,?_⟩;refine⟨_,bj 32 rfl rfl (by decide),?_⟩;rintro r hs ⟨rfl,rfl⟩;refine⟨rfl,rfl,?_⟩;exact⟨congrArg _ (Ye hx),rfl⟩
theorem Ah(a:Nat):ak .rem .u64 (a:Int) 4294967296=((a%2^32:Nat):Int):=Bc a (2^32)
theorem lM{a b:Nat}(h:a+b<2^64):ae .u64 ((a:Int)+(b:Int))=((a+b:Nat):Int):=by rw [←afy,wrap64 h]
theorem LX{a b:Nat}(ha:a<2^32)(hb:b<2^32):ak .aP .u64 (a:Int) (b:Int)=((a &&& b:Nat):Int):=HK (Nat.lt_trans ha (by decide)) (Nat.lt_trans hb (by decide))
theorem Yf{x y z:Nat}(hx:x<2^32)(hy:y<2^32)(hz:z<2^32):ak .ay .u64 (ak .aP .u64 (x:Int) (y:Int)) (ak .aP .u64 (ae .u64 (4294967295 - (x:Int))) (z:Int))=((ch x y z:Nat):Int):=by
 have h1:ae .u64 (4294967295 - (x:Int))=((2^32 - 1 - x:Nat):Int):=by
  rw [show(4294967295:Int) - (x:Int)=((2^32 - 1 - x:Nat):Int) by omega,wrap64 (by omega)]
 rw [h1,LX hx hy,LX (by omega) hz,xd (fc hx) (fc (by omega))];rfl
theorem U8{x y z:Nat}(hx:x<2^32)(hy:y<2^32)(hz:z<2^32):ak .ay .u64 (ak .ay .u64 (ak .aP .u64 (x:Int) (y:Int)) (ak .aP .u64 (x:Int) (z:Int))) (ak .aP .u64 (y:Int) (z:Int))=((RD x y z:Nat):Int):=by
 rw [LX hx hy,LX hx hz,LX hy hz,xd (fc hx) (fc hx),xd (eE (fc hx) (fc hx)) (fc hy)];rfl
theorem LY{v:Nat→Nat}(hv: ∀j,j<8→v j<2^32){k w:Nat}(hk:k<2^32)(hw:w<2^32):
  (ak .rem .u64 (ae .u64 ((ae .u64 ((ae .u64 ((ae .u64 (((v 7:Nat):Int)+((S1 (v 4):Nat):Int)))+(ak .ay .u64 (ak .aP .u64 ((v 4:Nat):Int) ((v 5:Nat):Int)) (ak .aP .u64 (ae .u64 (4294967295 - ((v 4:Nat):Int))) ((v 6:Nat):Int)))))+(k:Int)))+(w:Int))) 4294967296)=((r8 v k w:Nat):Int):=by
 have a1:=U9 (hv 4 (by omega));have a2:=U_ (y:=v 5) (z:=v 6) (hv 4 (by omega));have a3:=hv 7 (by omega);rw [Yf (hv 4 (by omega)) (hv 5 (by omega)) (hv 6 (by omega))];unfold r8;generalize S1 (v 4)=s at*;generalize ch (v 4) (v 5) (v 6)=c at*;generalize v 7=a at*;rw [lM (by omega),lM (by omega),lM (by omega),lM (by omega),Ah]
theorem SU{v:Nat→Nat}(hv: ∀j,j<8→v j<2^32){k w:Nat}(hk:k<2^32)(hw:w<2^32):
  (ak .rem .u64 (ae .u64 ((ak .rem .u64 (ae .u64 ((ae .u64 ((ae .u64 ((ae .u64 (((v 7:Nat):Int)+((S1 (v 4):Nat):Int)))+(ak .ay .u64 (ak .aP .u64 ((v 4:Nat):Int) ((v 5:Nat):Int)) (ak .aP .u64 (ae .u64 (4294967295 - ((v 4:Nat):Int))) ((v 6:Nat):Int)))))+(k:Int)))+(w:Int))) 4294967296)+(ak .rem .u64 (ae .u64 (((S0 (v 0):Nat):Int)+(ak .ay .u64 (ak .ay .u64 (ak .aP .u64 ((v 0:Nat):Int) ((v 1:Nat):Int)) (ak .aP .u64 ((v 0:Nat):Int) ((v 2:Nat):Int))) (ak .aP .u64 ((v 1:Nat):Int) ((v 2:Nat):Int))))) 4294967296))) 4294967296)=((Sh.step v k w 0:Nat):Int):=by
 rw [LZ,LY hv hk hw,U8 (hv 0 (by omega)) (hv 1 (by omega)) (hv 2 (by omega))];have a0:r8 v k w<2^32:=afI _ (Nat.two_pow_pos 32);have a1:=Va (hv 0 (by omega));have a2:=SW (z:=v 2) (hv 0 (by omega)) (hv 1 (by omega));generalize r8 v k w=t at*;generalize S0 (v 0)=s at*;generalize RD (v 0) (v 1) (v 2)=m at*;have a3:(s+m)%2^32<2^32:=afI _ (Nat.two_pow_pos 32);rw [lM (by omega),Ah,lM (by omega),Ah]
theorem SX{v:Nat→Nat}(hv: ∀j,j<8→v j<2^32){k w:Nat}(hk:k<2^32)(hw:w<2^32):
  (ak .rem .u64 (ae .u64 (((v 3:Nat):Int)+(ak .rem .u64 (ae .u64 ((ae .u64 ((ae .u64 ((ae .u64 (((v 7:Nat):Int)+((S1 (v 4):Nat):Int)))+(ak .ay .u64 (ak .aP .u64 ((v 4:Nat):Int) ((v 5:Nat):Int)) (ak .aP .u64 (ae .u64 (4294967295 - ((v 4:Nat):Int))) ((v 6:Nat):Int)))))+(k:Int)))+(w:Int))) 4294967296))) 4294967296)=((Sh.step v k w 4:Nat):Int):=by
 rw [L0,LY hv hk hw];have a0:r8 v k w<2^32:=afI _ (Nat.two_pow_pos 32);have a1:=hv 3 (by omega);generalize r8 v k w=t at*;rw [lM (by omega),Ah]
abbrev HL(b:Nat)(v:Nat→Nat):HP:=ax b true [.int .u64 ((v 0:Nat):Int),.int .u64 ((v 1:Nat):Int),.int .u64 ((v 2:Nat):Int),.int .u64 ((v 3:Nat):Int),.int .u64 ((v 4:Nat):Int),.int .u64 ((v 5:Nat):Int),.int .u64 ((v 6:Nat):Int),.int .u64 ((v 7:Nat):Int)]
theorem Ds(v0:V1)(A0:Nat→Int)(v:Nat→Nat)(k w:Nat)(hA: ∀j,j<8→A0 j=((v j:Nat):Int))(hv: ∀j,j<8→v j<2^32)(hk:k<2^32)(hw:w<2^32):
  aw ae0 162 [v0.v,.int .u64 (k:Int),.int .u64 (w:Int),.int .i64 32] [aE true 23 1 v0.v 8 (aQ 8 [aO .u64 1 A0])]
   (fun r hs=> ∃b:Nat,r= .slice (some ⟨b,0,none⟩) 8 8∧hs=[aE true 23 1 v0.v 8 (aQ 8 [aO .u64 1 A0]),HL b (Sh.step v k w)]):=by
 refine LR _ (k:Int) (w:Int) A0 v0 ?_;unfold Dk;rw [hA 0 (by omega),hA 1 (by omega),hA 2 (by omega),hA 3 (by omega),hA 4 (by omega),hA 5 (by omega),hA 6 (by omega),hA 7 (by omega)];refine⟨_,bj 32 rfl rfl (by decide),?_⟩;rintro r hs ⟨rfl,rfl⟩;refine⟨rfl,rfl,?_⟩;refine⟨_,Dp (v 4) (hv 4 (by omega)),?_⟩;rintro r hs ⟨rfl,rfl⟩;refine⟨_,rfl,rfl,?_⟩;refine⟨_,bj 32 rfl rfl (by decide),?_⟩;rintro r hs ⟨rfl,rfl⟩;refine⟨rfl,rfl,?_⟩;refine⟨_,Dn (v 0) (hv 0 (by omega)),?_⟩;rintro r hs ⟨rfl,rfl⟩;refine⟨_,rfl,rfl,?_⟩;refine⟨_,bj 32 rfl rfl (by decide),?_⟩;rintro r hs ⟨rfl,rfl⟩;refine⟨rfl,rfl,?_⟩;refine⟨_,bj 32 rfl rfl (by decide),?_⟩;rintro r hs ⟨rfl,rfl⟩;refine⟨rfl,rfl,?_⟩;refine⟨_,bj 32 rfl rfl (by decide),?_⟩;rintro r hs ⟨rfl,rfl⟩;refine⟨rfl,rfl,?_⟩;intro b0;rw [SU hv hk hw,SX hv hk hw];refine⟨b0,rfl,?_⟩;unfold HL;rw [ke v k w (j:=1) (by decide) (by decide) (by decide),ke v k w (j:=2) (by decide) (by decide) (by decide),ke v k w (j:=3) (by decide) (by decide) (by decide),ke v k w (j:=5) (by decide) (by decide) (by decide),
  ke v k w (j:=6) (by decide) (by decide) (by decide),ke v k w (j:=7) (by decide) (by decide) (by decide)]
def C64:List Nat:=[4794697086780616226,8158064640168781261,13096744586834688815,16840607885511220156,4131703408338449720,6480981068601479193,10538285296894168987,12329834152419229976,15566598209576043074,1334009975649890238,2608012711638119052,6128411473006802146,8268148722764581231,9286055187155687089,11230858885718282805,13951009754708518548,16472876342353939154,17275323862435702243,1135362057144423861,2597628984639134821,3308224258029322869,5365058923640841347,6679025012923562964,8573033837759648693,10970295158949994411,12119686244451234320,12683024718118986047,13788192230050041572,14330467153632333762,15395433587784984357,489312712824947311,1452737877330783856,2861767655752347644,3322285676063803686,5560940570517711597,5996557281743188959,7280758554555802590,8532644243296465576,9350256976987008742,10552545826968843579,11727347734174303076,12113106623233404929,14000437183269869457,14369950271660146224,15101387698204529176,15463397548674623760,17586052441742319658,1182934255886127544,1847814050463011016,2177327727835720531,2830643537854262169,3796741975233480872,4115178125766777443,5681478168544905931,6601373596472566643,7507060721942968483,8399075790359081724,8693463985226723168,9568029438360202098,10144078919501101548,10430055236837252648,11840083180663258601,13761210420658862357,14299343276471374635,14566680578165727644,15097957966210449927,16922976911328602910,17689382322260857208,500013540394364858,748580250866718886,1242879168328830382,1977374033974150939,2944078676154940804,3659926193048069267,4368137639120453308,4836135668995329356,5532061633213252278,6448918945643986474,6902733635092675308,7801388544844847127]
def C0(j:Nat):Nat:=C64.getD j 0
theorem Bd:aw ae0 157 [] [] (fun r hs=> ∃v:V1,∃A:Nat→Int,r=v.v∧hs=[aE true 23 1 v.v 80 (aQ 80 [aO .u64 1 A])]∧∀j,j<64→ae .u64 (ak .quo .u64 (A j) 4294967296)=((K0 j:Nat):Int)):=by
 refine aw.post (p:=fun r hs=> ∃b:Nat,r= .slice (some ⟨b,0,none⟩) 80 80∧hs=[ax b true (aQ 80 [aO .u64 1 fun j=>((C0 j:Nat):Int)])]) ?_ ?_
 ·refine Jr _ ?_;unfold Ag;intro b0;refine⟨b0,rfl,congrArg (fun c=>[ax b0 true c]) ?_⟩
  kernel_rfl
 ·rintro r hs ⟨b,rfl,rfl⟩;exact⟨_,bX.LW (t:=23) (s:=1) (n:=80) 0 rfl (by kernel_rfl) (by decide),⟨.slice (some ⟨b,0,none⟩) 80 80,rfl⟩,_,rfl,rfl,by decide+kernel⟩
theorem Js(v0:V1)(A0:Nat→Int)(v:Nat→Nat)(k w:Nat)(hA: ∀j,j<8→A0 j=((v j:Nat):Int))(hv: ∀j,j<8→v j<2^32)(hk:k<2^32)(hw:w<2^32):
  aw ae0 162 [v0.v,.int .u64 (k:Int),.int .u64 (w:Int),.int .i64 32] [aE true 23 1 v0.v 8 (aQ 8 [aO .u64 1 A0])]
   (fun r hs=> ∃v1:V1,∃A:Nat→Int,r=v1.v∧hs=[aE true 23 1 v1.v 8 (aQ 8 [aO .u64 1 A])]∧∀j,j<8→A j=((Sh.step v k w j:Nat):Int)):=by
 refine aw.post (Ds v0 A0 v k w hA hv hk hw) ?_;rintro r hs ⟨b,rfl,rfl⟩;refine⟨_,bX.trans (bX.sub (List.sublist_cons_self _ _)) (bX.LW (t:=23) (s:=1) (n:=8) 0 rfl rfl (by decide)),⟨.slice (some ⟨b,0,none⟩) 8 8,rfl⟩,fun j=>((Sh.step v k w j:Nat):Int),rfl,?_,fun _ _=>rfl⟩;rfl
end Go.RX.Fn
