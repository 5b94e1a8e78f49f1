/- Sums. -/
import Derived.Test.YtllcdnkfbeokhaaGreatFnF
open Go.IntKind renaming wrap -> ae
open Go.Proofs.Tryz renaming prog -> ax8
open Int renaming toNat -> ag, toNat_natCast -> ax3
open List renaming getD_cons_succ -> ayI, getD_cons_zero -> ah
open Nat renaming lt_of_lt_of_le -> ax7
namespace Go.RX
theorem T2{b t s n:Nat}{cs:List Value}(hl:cs.length=n*s)(hn:n<=maxLen)(w:World)(S:Nat->Prop)(h:(ak b true cs).p w S):(aA true t s (.slice (some ⟨b,0,none⟩) n n) n cs).p w S:=by
 obtain⟨h1,ty,fz,h2,h3⟩:=h;have h4:=h3 rfl;subst h4;refine⟨?_,λk=>?_⟩
 .simp only[if_true];refine⟨hl,.inr ⟨b,0,n,cs.toArray,rfl,⟨ty,(0,0),h2,tQ.zero _⟩,Nat.le_refl _,hn,λ_=>?_,?_⟩⟩
  .simp [hl]
  .rw [List.drop_zero,<-hl];exact List.take_length
 .rw [h1 k];simp[Value.ownBlock,eq_comm]
theorem bq.T3{a:List HP}(i:Nat){b t s n:Nat}{cs:List Value}(hi:a[i]? =some (ak b true cs))(hl:cs.length=n*s)(hn:n<=maxLen):bq a (a.set i (aA true t s (.slice (some ⟨b,0,none⟩) n n) n cs)):=
 bq.put i _ _ hi (λ_=>rfl) λw S h=>⟨S,λ_ h=>h,T2 hl hn w S h⟩
end Go.RX
namespace Go.RX.Fn
open Go Go.RX Go.Proofs Go.RX.Sh Go.RX.Fg Go.RX.Fj Go.RX.Fk
theorem XT(a b:Nat):ar .quo .u64 (a:Int) (b:Int)=((a/b:Nat):Int):=rfl
theorem E9(a b:Nat):ar .rem .u64 (a:Int) (b:Int)=((a%b:Nat):Int):=rfl
theorem wrap64{n:Nat}(h:n<2^64):ae .u64 (n:Int)=(n:Int):=by rw[wrap_u64,Nat.mod_eq_of_lt h]
theorem Mn{x n:Nat}(hx:x<2^32):ae .u64 (ar .quo .u64 (x:Int) ((2^n:Nat):Int))=((x/2^n:Nat):Int):=by
 rw[XT,wrap64 (Nat.lt_trans (tB hx) (by decide))]
theorem uh{x n:Nat}(hx:x<2^32)(hn:n<=32):
  ae .u64 (ae .u64 (ar .quo .u64 (x:Int) ((2^n:Nat):Int))+ar .rem .u64 (ae .u64 ((x:Int)*((2^(32 - n):Nat):Int))) ((2^32:Nat):Int))=((ia x n:Nat):Int):=by
 have h2:x*2^(32 - n)<2^64:=by
  have h3:2^(32 - n)<=2^32:=Nat.pow_le_pow_right (by decide) (by omega);have h4:x*2^(32 - n)<=x*2^32:=Nat.mul_le_mul_left _ h3;omega
 have h5:=c_ hx hn;unfold ia at h5 ⊢;rw[Mn hx,<-Int.natCast_mul,wrap64 h2,E9,<-Int.natCast_add,wrap64 (Nat.lt_trans h5 (by decide))]
theorem B1{a b:Nat}(ha:a<2^32)(hb:b<2^32):ar .cQ .u64 (a:Int) (b:Int)=((a^^^b:Nat):Int):=ahr (Nat.lt_trans ha (by decide)) (Nat.lt_trans hb (by decide))
theorem Ih(n:Nat)(hn:n<=32):ao ax8 61 [.int .i64 (n:Int)] [] (λr hs=>r= .int .u64 ((2^n:Nat):Int)/\hs=[]):=by
 refine Qj _ (n:Int) ?_;unfold Av;refine⟨λe=> ∃a:Nat,a<=n/\e.i=[((2^a:Nat):Int),(a:Int)],λe=>((n:Int) - e.i.getD 1 0).toNat,⟨_,_,rfl,rfl,0,by omega,rfl⟩,?_⟩;rintro x1 x2 ⟨a,ha,hx⟩;simp only[List.cons.injEq,and_true]at hx;obtain⟨rfl,rfl⟩:=hx;refine⟨λcC=>⟨by omega,λ_=>⟨by omega,λ_=>⟨_,_,rfl,rfl,⟨a+1,by omega,?_⟩,?_⟩⟩⟩,λlS=>⟨?_,rfl⟩⟩
 .have h1:2^(a+1)<=2^32:=Nat.pow_le_pow_right (by decide) (by omega);have h2:ae .u64 (2*((2^a:Nat):Int))=((2^(a+1):Nat):Int):=by
   rw[show(2:Int)*((2^a:Nat):Int)=((2^(a+1):Nat):Int) by rw[Nat.pow_succ,Nat.mul_comm,Int.natCast_mul];rfl];exact wrap64 (Nat.lt_of_le_of_lt h1 (by decide))
  rw[h2,Int.natCast_add];rfl
 .simp only[ah,ayI];omega
 .rw [show a=n by omega]
theorem a_(n:Nat){m p:Int}(hm:(n:Int)=m)(hp:((2^n:Nat):Int)=p)(hn:n<=32):ao ax8 61 [.int .i64 m] [] (λr hs=>r= .int .u64 p/\hs=[]):=by
 subst hm;subst hp;exact Ih n hn
theorem aoe{x:Nat}(hx:x<2^32):(ar .cQ .u64 (ar .cQ .u64 (ae .u64 ((ae .u64 (ar .quo .u64 (x:Int) 4))+(ar .rem .u64 (ae .u64 ((x:Int)*1073741824)) 4294967296))) (ae .u64 ((ae .u64 (ar .quo .u64 (x:Int) 8192))+(ar .rem .u64 (ae .u64 ((x:Int)*524288)) 4294967296)))) (ae .u64 ((ae .u64 (ar .quo .u64 (x:Int) 4194304))+(ar .rem .u64 (ae .u64 ((x:Int)*1024)) 4294967296))))=((S0 x:Nat):Int):=by
 have r0:ae .u64 ((ae .u64 (ar .quo .u64 (x:Int) 4))+(ar .rem .u64 (ae .u64 ((x:Int)*1073741824)) 4294967296))=((ia x 2:Nat):Int):=uh (n:=2) hx (by decide);have l0:ia x 2<2^32:=c_ hx (by decide);have r1:ae .u64 ((ae .u64 (ar .quo .u64 (x:Int) 8192))+(ar .rem .u64 (ae .u64 ((x:Int)*524288)) 4294967296))=((ia x 13:Nat):Int):=uh (n:=13) hx (by decide);have l1:ia x 13<2^32:=c_ hx (by decide);have r2:ae .u64 ((ae .u64 (ar .quo .u64 (x:Int) 4194304))+(ar .rem .u64 (ae .u64 ((x:Int)*1024)) 4294967296))=((ia x 22:Nat):Int):=uh (n:=22) hx (by decide);have l2:ia x 22<2^32:=c_ hx (by decide);rw[r0,r1,r2,B1 l0 l1,B1 (gX l0 l1) l2];rfl
theorem Ii(x:Nat)(hx:x<2^32):ao ax8 64 [.int .i64 0,.int .u64 (x:Int),.int .i64 32] [] (λr hs=>r= .int .u64 ((S0 x:Nat):Int)/\hs=[]):=by
 refine Qk _ (x:Int) ?_;unfold F1;refine⟨_,a_ 22 rfl rfl (by decide),?_⟩;rintro r hs ⟨rfl,rfl⟩;refine⟨rfl,rfl,?_⟩;refine⟨_,a_ 22 rfl rfl (by decide),?_⟩;rintro r hs ⟨rfl,rfl⟩;refine⟨rfl,rfl,?_⟩;refine⟨_,a_ 10 rfl rfl (by decide),?_⟩;rintro r hs ⟨rfl,rfl⟩;refine⟨rfl,rfl,?_⟩;refine⟨_,a_ 32 rfl rfl (by decide),?_⟩;rintro r hs ⟨rfl,rfl⟩;refine⟨rfl,rfl,?_⟩;refine⟨_,a_ 2 rfl rfl (by decide),?_⟩;rintro r hs ⟨rfl,rfl⟩;refine⟨rfl,rfl,?_⟩;refine⟨_,a_ 30 rfl rfl (by decide),?_⟩;rintro r hs ⟨rfl,rfl⟩;refine⟨rfl,rfl,?_⟩;refine⟨_,a_ 32 rfl rfl (by decide),?_⟩;rintro r hs ⟨rfl,rfl⟩;refine⟨rfl,rfl,?_⟩;refine⟨_,a_ 13 rfl rfl (by decide),?_⟩;rintro r hs ⟨rfl,rfl⟩;refine⟨rfl,rfl,?_⟩;refine⟨_,a_ 19 rfl rfl (by decide),?_⟩;rintro r hs ⟨rfl,rfl⟩;refine⟨rfl,rfl,?_⟩;refine⟨_,a_ 32 rfl rfl (by decide),?_⟩;rintro r hs ⟨rfl,rfl⟩;refine⟨rfl,rfl,?_⟩;exact⟨congrArg _ (aoe hx),rfl⟩
theorem aof{x:Nat}(hx:x<2^32):(ar .cQ .u64 (ar .cQ .u64 (ae .u64 ((ae .u64 (ar .quo .u64 (x:Int) 64))+(ar .rem .u64 (ae .u64 ((x:Int)*67108864)) 4294967296))) (ae .u64 ((ae .u64 (ar .quo .u64 (x:Int) 2048))+(ar .rem .u64 (ae .u64 ((x:Int)*2097152)) 4294967296)))) (ae .u64 ((ae .u64 (ar .quo .u64 (x:Int) 33554432))+(ar .rem .u64 (ae .u64 ((x:Int)*128)) 4294967296))))=((S1 x:Nat):Int):=by
 have r0:ae .u64 ((ae .u64 (ar .quo .u64 (x:Int) 64))+(ar .rem .u64 (ae .u64 ((x:Int)*67108864)) 4294967296))=((ia x 6:Nat):Int):=uh (n:=6) hx (by decide);have l0:ia x 6<2^32:=c_ hx (by decide);have r1:ae .u64 ((ae .u64 (ar .quo .u64 (x:Int) 2048))+(ar .rem .u64 (ae .u64 ((x:Int)*2097152)) 4294967296))=((ia x 11:Nat):Int):=uh (n:=11) hx (by decide);have l1:ia x 11<2^32:=c_ hx (by decide);have r2:ae .u64 ((ae .u64 (ar .quo .u64 (x:Int) 33554432))+(ar .rem .u64 (ae .u64 ((x:Int)*128)) 4294967296))=((ia x 25:Nat):Int):=uh (n:=25) hx (by decide);have l2:ia x 25<2^32:=c_ hx (by decide);rw[r0,r1,r2,B1 l0 l1,B1 (gX l0 l1) l2];rfl
theorem Ij(x:Nat)(hx:x<2^32):ao ax8 64 [.int .i64 1,.int .u64 (x:Int),.int .i64 32] [] (λr hs=>r= .int .u64 ((S1 x:Nat):Int)/\hs=[]):=by
 refine Ql _ (x:Int) ?_;unfold F2;refine⟨_,a_ 25 rfl rfl (by decide),?_⟩;rintro r hs ⟨rfl,rfl⟩;refine⟨rfl,rfl,?_⟩;refine⟨_,a_ 25 rfl rfl (by decide),?_⟩;rintro r hs ⟨rfl,rfl⟩;refine⟨rfl,rfl,?_⟩;refine⟨_,a_ 7 rfl rfl (by decide),?_⟩;rintro r hs ⟨rfl,rfl⟩;refine⟨rfl,rfl,?_⟩;refine⟨_,a_ 32 rfl rfl (by decide),?_⟩;rintro r hs ⟨rfl,rfl⟩;refine⟨rfl,rfl,?_⟩;refine⟨_,a_ 6 rfl rfl (by decide),?_⟩;rintro r hs ⟨rfl,rfl⟩;refine⟨rfl,rfl,?_⟩;refine⟨_,a_ 26 rfl rfl (by decide),?_⟩;rintro r hs ⟨rfl,rfl⟩;refine⟨rfl,rfl,?_⟩;refine⟨_,a_ 32 rfl rfl (by decide),?_⟩;rintro r hs ⟨rfl,rfl⟩;refine⟨rfl,rfl,?_⟩;refine⟨_,a_ 11 rfl rfl (by decide),?_⟩;rintro r hs ⟨rfl,rfl⟩;refine⟨rfl,rfl,?_⟩;refine⟨_,a_ 21 rfl rfl (by decide),?_⟩;rintro r hs ⟨rfl,rfl⟩;refine⟨rfl,rfl,?_⟩;refine⟨_,a_ 32 rfl rfl (by decide),?_⟩;rintro r hs ⟨rfl,rfl⟩;refine⟨rfl,rfl,?_⟩;exact⟨congrArg _ (aof hx),rfl⟩
theorem aog{x:Nat}(hx:x<2^32):(ar .cQ .u64 (ar .cQ .u64 (ae .u64 ((ae .u64 (ar .quo .u64 (x:Int) 128))+(ar .rem .u64 (ae .u64 ((x:Int)*33554432)) 4294967296))) (ae .u64 ((ae .u64 (ar .quo .u64 (x:Int) 262144))+(ar .rem .u64 (ae .u64 ((x:Int)*16384)) 4294967296)))) (ae .u64 (ar .quo .u64 (x:Int) 8)))=((s0 x:Nat):Int):=by
 have r0:ae .u64 ((ae .u64 (ar .quo .u64 (x:Int) 128))+(ar .rem .u64 (ae .u64 ((x:Int)*33554432)) 4294967296))=((ia x 7:Nat):Int):=uh (n:=7) hx (by decide);have l0:ia x 7<2^32:=c_ hx (by decide);have r1:ae .u64 ((ae .u64 (ar .quo .u64 (x:Int) 262144))+(ar .rem .u64 (ae .u64 ((x:Int)*16384)) 4294967296))=((ia x 18:Nat):Int):=uh (n:=18) hx (by decide);have l1:ia x 18<2^32:=c_ hx (by decide);have r2:ae .u64 (ar .quo .u64 (x:Int) 8)=((x/2^3:Nat):Int):=Mn (n:=3) hx;have l2:x/2^3<2^32:=tB hx;rw[r0,r1,r2,B1 l0 l1,B1 (gX l0 l1) l2];rfl
theorem Ik(x:Nat)(hx:x<2^32):ao ax8 64 [.int .i64 2,.int .u64 (x:Int),.int .i64 32] [] (λr hs=>r= .int .u64 ((s0 x:Nat):Int)/\hs=[]):=by
 refine Qm _ (x:Int) ?_;unfold F3;refine⟨_,a_ 3 rfl rfl (by decide),?_⟩;rintro r hs ⟨rfl,rfl⟩;refine⟨rfl,rfl,?_⟩;refine⟨_,a_ 7 rfl rfl (by decide),?_⟩;rintro r hs ⟨rfl,rfl⟩;refine⟨rfl,rfl,?_⟩;refine⟨_,a_ 25 rfl rfl (by decide),?_⟩;rintro r hs ⟨rfl,rfl⟩;refine⟨rfl,rfl,?_⟩;refine⟨_,a_ 32 rfl rfl (by decide),?_⟩;rintro r hs ⟨rfl,rfl⟩;refine⟨rfl,rfl,?_⟩;refine⟨_,a_ 18 rfl rfl (by decide),?_⟩;rintro r hs ⟨rfl,rfl⟩;refine⟨rfl,rfl,?_⟩;refine⟨_,a_ 14 rfl rfl (by decide),?_⟩;rintro r hs ⟨rfl,rfl⟩;refine⟨rfl,rfl,?_⟩;refine⟨_,a_ 32 rfl rfl (by decide),?_⟩;rintro r hs ⟨rfl,rfl⟩;refine⟨rfl,rfl,?_⟩;exact⟨congrArg _ (aog hx),rfl⟩
theorem aoh{x:Nat}(hx:x<2^32):(ar .cQ .u64 (ar .cQ .u64 (ae .u64 ((ae .u64 (ar .quo .u64 (x:Int) 131072))+(ar .rem .u64 (ae .u64 ((x:Int)*32768)) 4294967296))) (ae .u64 ((ae .u64 (ar .quo .u64 (x:Int) 524288))+(ar .rem .u64 (ae .u64 ((x:Int)*8192)) 4294967296)))) (ae .u64 (ar .quo .u64 (x:Int) 1024)))=((s1 x:Nat):Int):=by
 have r0:ae .u64 ((ae .u64 (ar .quo .u64 (x:Int) 131072))+(ar .rem .u64 (ae .u64 ((x:Int)*32768)) 4294967296))=((ia x 17:Nat):Int):=uh (n:=17) hx (by decide);have l0:ia x 17<2^32:=c_ hx (by decide);have r1:ae .u64 ((ae .u64 (ar .quo .u64 (x:Int) 524288))+(ar .rem .u64 (ae .u64 ((x:Int)*8192)) 4294967296))=((ia x 19:Nat):Int):=uh (n:=19) hx (by decide);have l1:ia x 19<2^32:=c_ hx (by decide);have r2:ae .u64 (ar .quo .u64 (x:Int) 1024)=((x/2^10:Nat):Int):=Mn (n:=10) hx;have l2:x/2^10<2^32:=tB hx;rw[r0,r1,r2,B1 l0 l1,B1 (gX l0 l1) l2];rfl
theorem Il(x:Nat)(hx:x<2^32):ao ax8 64 [.int .i64 3,.int .u64 (x:Int),.int .i64 32] [] (λr hs=>r= .int .u64 ((s1 x:Nat):Int)/\hs=[]):=by
 refine Qn _ (x:Int) ?_;unfold F4;refine⟨_,a_ 10 rfl rfl (by decide),?_⟩;rintro r hs ⟨rfl,rfl⟩;refine⟨rfl,rfl,?_⟩;refine⟨_,a_ 17 rfl rfl (by decide),?_⟩;rintro r hs ⟨rfl,rfl⟩;refine⟨rfl,rfl,?_⟩;refine⟨_,a_ 15 rfl rfl (by decide),?_⟩;rintro r hs ⟨rfl,rfl⟩;refine⟨rfl,rfl,?_⟩;refine⟨_,a_ 32 rfl rfl (by decide),?_⟩;rintro r hs ⟨rfl,rfl⟩;refine⟨rfl,rfl,?_⟩;refine⟨_,a_ 19 rfl rfl (by decide),?_⟩;rintro r hs ⟨rfl,rfl⟩;refine⟨rfl,rfl,?_⟩;refine⟨_,a_ 13 rfl rfl (by decide),?_⟩;rintro r hs ⟨rfl,rfl⟩;refine⟨rfl,rfl,?_⟩;refine⟨_,a_ 32 rfl rfl (by decide),?_⟩;rintro r hs ⟨rfl,rfl⟩;refine⟨rfl,rfl,?_⟩;exact⟨congrArg _ (aoh hx),rfl⟩
theorem D6(a:Nat):ar .rem .u64 (a:Int) 4294967296=((a%2^32:Nat):Int):=E9 a (2^32)
theorem pg{a b:Nat}(h:a+b<2^64):ae .u64 ((a:Int)+(b:Int))=((a+b:Nat):Int):=by rw[<-Int.natCast_add,wrap64 h]
theorem T4{a b:Nat}(ha:a<2^32)(hb:b<2^32):ar .gO .u64 (a:Int) (b:Int)=((a &&& b:Nat):Int):=ahs (Nat.lt_trans ha (by decide)) (Nat.lt_trans hb (by decide))
theorem aoi{x y z:Nat}(hx:x<2^32)(hy:y<2^32)(hz:z<2^32):ar .cQ .u64 (ar .gO .u64 (x:Int) (y:Int)) (ar .gO .u64 (ae .u64 (4294967295 - (x:Int))) (z:Int))=((ch x y z:Nat):Int):=by
 have h1:ae .u64 (4294967295 - (x:Int))=((2^32 - 1 - x:Nat):Int):=by
  rw[show(4294967295:Int) - (x:Int)=((2^32 - 1 - x:Nat):Int) by omega,wrap64 (by omega)]
 rw[h1,T4 hx hy,T4 (by omega) hz,B1 (gY hx) (gY (by omega))];rfl
theorem ahN{x y z:Nat}(hx:x<2^32)(hy:y<2^32)(hz:z<2^32):ar .cQ .u64 (ar .cQ .u64 (ar .gO .u64 (x:Int) (y:Int)) (ar .gO .u64 (x:Int) (z:Int))) (ar .gO .u64 (y:Int) (z:Int))=((Zv x y z:Nat):Int):=by
 rw[T4 hx hy,T4 hx hz,T4 hy hz,B1 (gY hx) (gY hx),B1 (gX (gY hx) (gY hx)) (gY hy)];rfl
theorem T5{v:Nat->Nat}(hv: ∀j,j<8->v j<2^32){k w:Nat}(hk:k<2^32)(hw:w<2^32):
  (ar .rem .u64 (ae .u64 ((ae .u64 ((ae .u64 ((ae .u64 (((v 7:Nat):Int)+((S1 (v 4):Nat):Int)))+(ar .cQ .u64 (ar .gO .u64 ((v 4:Nat):Int) ((v 5:Nat):Int)) (ar .gO .u64 (ae .u64 (4294967295 - ((v 4:Nat):Int))) ((v 6:Nat):Int)))))+(k:Int)))+(w:Int))) 4294967296)=((temp v k w:Nat):Int):=by
 have a1:=ahw (hv 4 (by omega));have a2:=ahx (y:=v 5) (z:=v 6) (hv 4 (by omega));have a3:=hv 7 (by omega);rw[aoi (hv 4 (by omega)) (hv 5 (by omega)) (hv 6 (by omega))];unfold temp;generalize S1 (v 4)=s at*;generalize ch (v 4) (v 5) (v 6)=c at*;generalize v 7=a at*;rw[pg (by omega),pg (by omega),pg (by omega),pg (by omega),D6]
theorem acO{v:Nat->Nat}(hv: ∀j,j<8->v j<2^32){k w:Nat}(hk:k<2^32)(hw:w<2^32):
  (ar .rem .u64 (ae .u64 ((ar .rem .u64 (ae .u64 ((ae .u64 ((ae .u64 ((ae .u64 (((v 7:Nat):Int)+((S1 (v 4):Nat):Int)))+(ar .cQ .u64 (ar .gO .u64 ((v 4:Nat):Int) ((v 5:Nat):Int)) (ar .gO .u64 (ae .u64 (4294967295 - ((v 4:Nat):Int))) ((v 6:Nat):Int)))))+(k:Int)))+(w:Int))) 4294967296)+(ar .rem .u64 (ae .u64 (((S0 (v 0):Nat):Int)+(ar .cQ .u64 (ar .cQ .u64 (ar .gO .u64 ((v 0:Nat):Int) ((v 1:Nat):Int)) (ar .gO .u64 ((v 0:Nat):Int) ((v 2:Nat):Int))) (ar .gO .u64 ((v 1:Nat):Int) ((v 2:Nat):Int))))) 4294967296))) 4294967296)=((Sh.step v k w 0:Nat):Int):=by
 rw[TO,T5 hv hk hw,ahN (hv 0 (by omega)) (hv 1 (by omega)) (hv 2 (by omega))];have a0:temp v k w<2^32:=Nat.mod_lt _ (Nat.two_pow_pos 32);have a1:=ahv (hv 0 (by omega));have a2:=acI (z:=v 2) (hv 0 (by omega)) (hv 1 (by omega));generalize temp v k w=t at*;generalize S0 (v 0)=s at*;generalize Zv (v 0) (v 1) (v 2)=m at*;have a3:(s+m)%2^32<2^32:=Nat.mod_lt _ (Nat.two_pow_pos 32);rw[pg (by omega),D6,pg (by omega),D6]
theorem acP{v:Nat->Nat}(hv: ∀j,j<8->v j<2^32){k w:Nat}(hk:k<2^32)(hw:w<2^32):
  (ar .rem .u64 (ae .u64 (((v 3:Nat):Int)+(ar .rem .u64 (ae .u64 ((ae .u64 ((ae .u64 ((ae .u64 (((v 7:Nat):Int)+((S1 (v 4):Nat):Int)))+(ar .cQ .u64 (ar .gO .u64 ((v 4:Nat):Int) ((v 5:Nat):Int)) (ar .gO .u64 (ae .u64 (4294967295 - ((v 4:Nat):Int))) ((v 6:Nat):Int)))))+(k:Int)))+(w:Int))) 4294967296))) 4294967296)=((Sh.step v k w 4:Nat):Int):=by
 rw[TP,T5 hv hk hw];have a0:temp v k w<2^32:=Nat.mod_lt _ (Nat.two_pow_pos 32);have a1:=hv 3 (by omega);generalize temp v k w=t at*;rw[pg (by omega),D6]
abbrev Mo(b:Nat)(v:Nat->Nat):HP:=ak b true [.int .u64 ((v 0:Nat):Int),.int .u64 ((v 1:Nat):Int),.int .u64 ((v 2:Nat):Int),.int .u64 ((v 3:Nat):Int),.int .u64 ((v 4:Nat):Int),.int .u64 ((v 5:Nat):Int),.int .u64 ((v 6:Nat):Int),.int .u64 ((v 7:Nat):Int)]
theorem Im(v0:V1)(A0:Nat->Int)(v:Nat->Nat)(k w:Nat)(hA: ∀j,j<8->A0 j=((v j:Nat):Int))(hv: ∀j,j<8->v j<2^32)(hk:k<2^32)(hw:w<2^32):
  ao ax8 65 [v0.v,.int .u64 (k:Int),.int .u64 (w:Int),.int .i64 32] [aA true 24 1 v0.v 8 (aG 8 [ax .u64 1 A0])]
   (λr hs=> ∃b:Nat,r= .slice (some ⟨b,0,none⟩) 8 8/\hs=[aA true 24 1 v0.v 8 (aG 8 [ax .u64 1 A0]),Mo b (Sh.step v k w)]):=by
 refine Qo _ (k:Int) (w:Int) A0 v0 ?_;unfold F5;rw[hA 0 (by omega),hA 1 (by omega),hA 2 (by omega),hA 3 (by omega),hA 4 (by omega),hA 5 (by omega),hA 6 (by omega),hA 7 (by omega)];refine⟨_,a_ 32 rfl rfl (by decide),?_⟩;rintro r hs ⟨rfl,rfl⟩;refine⟨rfl,rfl,?_⟩;refine⟨_,Ij (v 4) (hv 4 (by omega)),?_⟩;rintro r hs ⟨rfl,rfl⟩;refine⟨_,rfl,rfl,?_⟩;refine⟨_,a_ 32 rfl rfl (by decide),?_⟩;rintro r hs ⟨rfl,rfl⟩;refine⟨rfl,rfl,?_⟩;refine⟨_,Ii (v 0) (hv 0 (by omega)),?_⟩;rintro r hs ⟨rfl,rfl⟩;refine⟨_,rfl,rfl,?_⟩;refine⟨_,a_ 32 rfl rfl (by decide),?_⟩;rintro r hs ⟨rfl,rfl⟩;refine⟨rfl,rfl,?_⟩;refine⟨_,a_ 32 rfl rfl (by decide),?_⟩;rintro r hs ⟨rfl,rfl⟩;refine⟨rfl,rfl,?_⟩;refine⟨_,a_ 32 rfl rfl (by decide),?_⟩;rintro r hs ⟨rfl,rfl⟩;refine⟨rfl,rfl,?_⟩;intro b0;rw[acO hv hk hw,acP hv hk hw];refine⟨b0,rfl,?_⟩;unfold Mo;rw[ng v k w (j:=1) (by decide) (by decide) (by decide),ng v k w (j:=2) (by decide) (by decide) (by decide),ng v k w (j:=3) (by decide) (by decide) (by decide),ng v k w (j:=5) (by decide) (by decide) (by decide),
  ng v k w (j:=6) (by decide) (by decide) (by decide),ng v k w (j:=7) (by decide) (by decide) (by decide)]
def C64:List Nat:=[4794697086780616226,8158064640168781261,13096744586834688815,16840607885511220156,4131703408338449720,6480981068601479193,10538285296894168987,12329834152419229976,15566598209576043074,1334009975649890238,2608012711638119052,6128411473006802146,8268148722764581231,9286055187155687089,11230858885718282805,13951009754708518548,16472876342353939154,17275323862435702243,1135362057144423861,2597628984639134821,3308224258029322869,5365058923640841347,6679025012923562964,8573033837759648693,10970295158949994411,12119686244451234320,12683024718118986047,13788192230050041572,14330467153632333762,15395433587784984357,489312712824947311,1452737877330783856,2861767655752347644,3322285676063803686,5560940570517711597,5996557281743188959,7280758554555802590,8532644243296465576,9350256976987008742,10552545826968843579,11727347734174303076,12113106623233404929,14000437183269869457,14369950271660146224,15101387698204529176,15463397548674623760,17586052441742319658,1182934255886127544,1847814050463011016,2177327727835720531,2830643537854262169,3796741975233480872,4115178125766777443,5681478168544905931,6601373596472566643,7507060721942968483,8399075790359081724,8693463985226723168,9568029438360202098,10144078919501101548,10430055236837252648,11840083180663258601,13761210420658862357,14299343276471374635,14566680578165727644,15097957966210449927,16922976911328602910,17689382322260857208,500013540394364858,748580250866718886,1242879168328830382,1977374033974150939,2944078676154940804,3659926193048069267,4368137639120453308,4836135668995329356,5532061633213252278,6448918945643986474,6902733635092675308,7801388544844847127]
def C0(j:Nat):Nat:=C64.getD j 0
theorem E_:ao ax8 60 [] [] (λr hs=> ∃v:V1,∃A:Nat->Int,r=v.v/\hs=[aA true 24 1 v.v 80 (aG 80 [ax .u64 1 A])]/\∀j,j<64->ae .u64 (ar .quo .u64 (A j) 4294967296)=((K0 j:Nat):Int)):=by
 refine ao.post (p:=λr hs=> ∃b:Nat,r= .slice (some ⟨b,0,none⟩) 80 80/\hs=[ak b true (aG 80 [ax .u64 1 λj=>((C0 j:Nat):Int)])]) ?_ ?_
 .refine Nh _ ?_;unfold Dp;intro b0;refine⟨b0,rfl,congrArg (λc=>[ak b0 true c]) ?_⟩
  kernel_rfl
 .rintro r hs ⟨b,rfl,rfl⟩;exact⟨_,bq.T3 (t:=23) (s:=1) (n:=80) 0 rfl (by kernel_rfl) (by decide),⟨.slice (some ⟨b,0,none⟩) 80 80,rfl⟩,_,rfl,rfl,by decide+kernel⟩
theorem Pj(v0:V1)(A0:Nat->Int)(v:Nat->Nat)(k w:Nat)(hA: ∀j,j<8->A0 j=((v j:Nat):Int))(hv: ∀j,j<8->v j<2^32)(hk:k<2^32)(hw:w<2^32):
  ao ax8 65 [v0.v,.int .u64 (k:Int),.int .u64 (w:Int),.int .i64 32] [aA true 24 1 v0.v 8 (aG 8 [ax .u64 1 A0])]
   (λr hs=> ∃v1:V1,∃A:Nat->Int,r=v1.v/\hs=[aA true 24 1 v1.v 8 (aG 8 [ax .u64 1 A])]/\∀j,j<8->A j=((Sh.step v k w j:Nat):Int)):=by
 refine ao.post (Im v0 A0 v k w hA hv hk hw) ?_;rintro r hs ⟨b,rfl,rfl⟩;refine⟨_,bq.trans (bq.sub (List.sublist_cons_self _ _)) (bq.T3 (t:=23) (s:=1) (n:=8) 0 rfl rfl (by decide)),⟨.slice (some ⟨b,0,none⟩) 8 8,rfl⟩,λj=>((Sh.step v k w j:Nat):Int),rfl,?_,λ_ _=>rfl⟩;rfl
open Go Go.RX Go.Proofs Go.RX.Sh Go.RX.Fg Go.RX.Fj Go.RX.Fk
open Go.RX.Fm (eight E3 Mj)
theorem B2{m:Nat}(h:m<2^64):ae .u64 (ar .quo .u64 (m:Int) 256)=((m/256:Nat):Int):=by
 have e:ar .quo .u64 (m:Int) 256=((m/256:Nat):Int):=rfl;rw[e,wrap64 (Nat.lt_of_le_of_lt (Nat.div_le_self _ _) h)]
theorem zb(m:Nat):ae .u8 (ar .rem .u64 (m:Int) 256)=((m%256:Nat):Int):=by
 have h:ar .rem .u64 (m:Int) 256=((m%256:Nat):Int):=rfl;rw[h,wrap_u8];congr 1;omega
theorem XU{m:Nat}(hm:m<2^64)(j:Nat)(hj:j<8):
  (au (au (au (au (au (au (au (au (λ_=>0) 7 (ae .u8 (ar .rem .u64 (m:Int) 256))) 6 (ae .u8 (ar .rem .u64 (ae .u64 (ar .quo .u64 (m:Int) 256)) 256))) 5 (ae .u8 (ar .rem .u64 (ae .u64 (ar .quo .u64 (ae .u64 (ar .quo .u64 (m:Int) 256)) 256)) 256))) 4 (ae .u8 (ar .rem .u64 (ae .u64 (ar .quo .u64 (ae .u64 (ar .quo .u64 (ae .u64 (ar .quo .u64 (m:Int) 256)) 256)) 256)) 256))) 3 (ae .u8 (ar .rem .u64 (ae .u64 (ar .quo .u64 (ae .u64 (ar .quo .u64 (ae .u64 (ar .quo .u64 (ae .u64 (ar .quo .u64 (m:Int) 256)) 256)) 256)) 256)) 256))) 2 (ae .u8 (ar .rem .u64 (ae .u64 (ar .quo .u64 (ae .u64 (ar .quo .u64 (ae .u64 (ar .quo .u64 (ae .u64 (ar .quo .u64 (ae .u64 (ar .quo .u64 (m:Int) 256)) 256)) 256)) 256)) 256)) 256))) 1 (ae .u8 (ar .rem .u64 (ae .u64 (ar .quo .u64 (ae .u64 (ar .quo .u64 (ae .u64 (ar .quo .u64 (ae .u64 (ar .quo .u64 (ae .u64 (ar .quo .u64 (ae .u64 (ar .quo .u64 (m:Int) 256)) 256)) 256)) 256)) 256)) 256)) 256))) 0 (ae .u8 (ar .rem .u64 (ae .u64 (ar .quo .u64 (ae .u64 (ar .quo .u64 (ae .u64 (ar .quo .u64 (ae .u64 (ar .quo .u64 (ae .u64 (ar .quo .u64 (ae .u64 (ar .quo .u64 (ae .u64 (ar .quo .u64 (m:Int) 256)) 256)) 256)) 256)) 256)) 256)) 256)) 256))) j=(Pa m j:Nat):=by
 have l: ∀{k:Nat},k<2^64->k/256<2^64:=λh=>Nat.lt_of_le_of_lt (Nat.div_le_self _ _) h
 rw[B2 hm,B2 (l hm),B2 (l (l hm)),B2 (l (l (l hm))),B2 (l (l (l (l hm)))),B2 (l (l (l (l (l hm))))),B2 (l (l (l (l (l (l hm))))))];rw[zb,zb,zb,zb,zb,zb,zb,zb];unfold Pa;have d: ∀k:Nat,m/256^k/256=m/256^(k+1):=λk=>by rw[Nat.div_div_eq_div_mul,<-Nat.pow_succ]
 have e1:m/256=m/256^1:=by rw[Nat.pow_one]
 rw[e1,d,d,d,d,d,d]
 match j,hj with
 | 0,_=>rfl
 | 1,_=>rfl
 | 2,_=>rfl
 | 3,_=>rfl
 | 4,_=>rfl
 | 5,_=>rfl
 | 6,_=>rfl
 | 7,_=>simp[au]
 | j+8,h=>exact absurd h (by omega)
theorem Fa(v0:V1)(T:Nat->Nat)(n:Nat)(hl:n+300<=140737488355328):ao ax8 62 [v0.v,.int .i64 32] [dL false v0 n T] λr hs=> ∃o:V1,r=o.v/\hs=[dL true o (eH n) (lX n T)]:=by
 refine ao.post (p:=λr hs=> ∃o:V1,r=o.v/\hs[0]? =some (dL true o (eH n) (lX n T))) ?_ ?_;rotate_left
 .rintro r hs ⟨o,rfl,h⟩;exact⟨_,bq.ahE 0 h,o,rfl,rfl⟩
 refine Jm _ (n:Int) (λj=>(T j:Nat)) v0 ?_;unfold Aw;have hL:eH n=64*((n+8)/64+1):=rfl;intro v1
 iterate 3 refine⟨by omega,λ_=>?_⟩
 intro v2 b0;refine⟨by omega,λ_=>?_⟩;intro v3;refine⟨λe=> ∃k:Nat,n+1<=k/\k+8<=eH n/\e.i=[(k:Int)]/\∀j,j<k->(e.a.getD 0 λ_=>0) j=(lX n T j:Nat),λe=>((eH n:Int) - e.i.getD 0 0).toNat,⟨v3,_,_,rfl,rfl,rfl,λ_ _=>rfl,n+1,by omega,by omega,by rw[Int.natCast_add];rfl,λj hj=>?_⟩,?_⟩
 .simp only[ah];rw[ax3];unfold au lX;split
  .rename_i c;rw[if_neg (by omega)];rfl
  .rw [if_pos (by omega)]
 rintro v4 x1 A1 ⟨k,hk1,hk2,hx,hA⟩;simp only[List.cons.injEq,and_true]at hx;subst hx;simp only[ah]at hA;have hr:ar .rem .i64 (k:Int) 64=((k%64:Nat):Int):=rfl;have tk:ag (k:Int)=k:=rfl;rw[hr,tk];refine⟨by omega,λ_=>⟨λfL=>?_,λheq=>?_⟩⟩
 .intro b1;refine⟨by omega,λ_=>?_⟩;intro v5;refine⟨v5,_,_,rfl,rfl,rfl,λ_ _=>rfl,⟨k+1,by omega,by omega,by rw[Int.natCast_add];rfl,λj hj=>?_⟩,?_⟩
  .simp only[ah];unfold au;split
   .unfold lX;rw[if_neg (by omega),if_neg (by omega),if_pos (by omega)];rfl
   .exact hA j (by omega)
  .simp only[ah];omega
 .have EA:k=eH n - 8:=by omega
  have hm:ae .u64 (8*(ae .u64 (n:Int)))=((n*8:Nat):Int):=by
   rw[wrap64 (by omega),show 8*(n:Int)=((n*8:Nat):Int) by omega,wrap64 (by omega)]
  rw[hm];intro v5;refine⟨by omega,λ_=>⟨by omega,λ_=>?_⟩⟩;intro v6;refine⟨v6,rfl,congrArg some ?_⟩;have t8:ag ((k:Int)+8)=eH n:=by omega
  dsimp only[bo,bi,bn];rw[t8];unfold dL;refine congrArg (aA true 5 1 v6.v (eH n)) (oC λj hj=>?_);unfold bV;by_cases c:j<k
  .rw [if_neg (by omega)];exact hA j c
  .rw [if_pos (by omega),XU (by omega) _ (by omega)];unfold lX;rw[if_neg (by omega),if_neg (by omega),if_neg (by omega),EA]
theorem acQ(n:Nat):(256:Int)*(n:Int)=((n*256:Nat):Int):=by omega
theorem acR{a b c d:Nat}(ha:a<256)(hb:b<256)(hc:c<256)(hd:d<256):
  ae .u64 ((ae .u64 (256*(ae .u64 ((ae .u64 (256*(ae .u64 ((ae .u64 (256*(ae .u64 (ae .u64 (a:Int)))))+(ae .u64 (b:Int))))))+(ae .u64 (c:Int))))))+(ae .u64 (d:Int)))=((((a*256+b)*256+c)*256+d:Nat):Int):=by
 rw[wrap64 (n:=a) (by omega),wrap64 (n:=a) (by omega),acQ a,wrap64 (n:=a*256) (by omega),wrap64 (n:=b) (by omega),pg (by omega),acQ,wrap64 (n:=(a*256+b)*256) (by omega),wrap64 (n:=c) (by omega),pg (by omega),acQ,wrap64 (n:=((a*256+b)*256+c)*256) (by omega),wrap64 (n:=d) (by omega),pg (by omega)]
theorem ahO{a b c d:Nat}(ha:a<2^32)(hb:b<2^32)(hc:c<2^32)(hd:d<2^32):
  ar .rem .u64 (ae .u64 ((ae .u64 ((ae .u64 ((a:Int)+(b:Int)))+(c:Int)))+(d:Int))) 4294967296=(((a+b+c+d)%2^32:Nat):Int):=by
 rw[pg (by omega),pg (by omega),pg (by omega),D6]
theorem zd{a b:Nat}(ha:a<2^32)(hb:b<2^32):ar .rem .u64 (ae .u64 ((a:Int)+(b:Int))) 4294967296=(((a+b)%2^32:Nat):Int):=by
 rw[pg (by omega),D6]
theorem iP(a:Nat):ar .rem .u64 (a:Int) 256=((a%256:Nat):Int):=E9 a 256
theorem Mp{w n:Nat}(hw:w<2^32):ae .u8 (ar .rem .u64 (ae .u64 (ar .quo .u64 (w:Int) ((2^n:Nat):Int))) 256)=((w/2^n%256:Nat):Int):=by
 rw[Mn hw,iP,wrap_u8,Nat.mod_eq_of_lt (ax7 (Nat.mod_lt _ (by decide)) (by decide))]
theorem o24{w:Nat}(hw:w<2^32):ae .u8 (ar .rem .u64 (ae .u64 (ar .quo .u64 (w:Int) 16777216)) 256)=((w/2^24%256:Nat):Int):=Mp (n:=24) hw
theorem o16{w:Nat}(hw:w<2^32):ae .u8 (ar .rem .u64 (ae .u64 (ar .quo .u64 (w:Int) 65536)) 256)=((w/2^16%256:Nat):Int):=Mp (n:=16) hw
theorem o8{w:Nat}(hw:w<2^32):ae .u8 (ar .rem .u64 (ae .u64 (ar .quo .u64 (w:Int) 256)) 256)=((w/2^8%256:Nat):Int):=Mp (n:=8) hw
theorem o0{w:Nat}(hw:w<2^32):ae .u8 (ar .rem .u64 (ae .u64 (ar .quo .u64 (w:Int) 1)) 256)=((w/2^0%256:Nat):Int):=Mp (n:=0) hw
theorem ahF{t:Nat}(ht:t<=64):ae .i64 (ar .quo .i64 ((t:Int)*32) 8)=((4*t:Nat):Int):=by
 have h1:ar .quo .i64 ((t:Int)*32) 8=((t*32/8:Nat):Int):=by
  show Int.tdiv ((t:Int)*32) 8=_;rw[show(t:Int)*32=((t*32:Nat):Int) by omega];rfl
 rw[h1,show t*32/8=4*t by omega];simp[ae,IntKind.signed,IntKind.bits];omega
set_option maxHeartbeats 1000000 in
theorem KG(v0:V1)(T:Nat->Nat)(hT: ∀j,T j<256)(n:Nat)(hl:n+300<=140737488355328):ao ax8 33 [v0.v,.int .i64 32] [dL false v0 n T] λr hs=> ∃o:V1,r=o.v/\hs=[dL true o 32 (yg n T)]:=by
 refine VG _ (n:Int) (λj=>(T j:Nat)) v0 ?_;unfold Lj;intro b0;refine⟨_,E_,?_⟩;rintro r hs ⟨v1,A1,rfl,rfl,hC⟩;refine⟨v1,A1,rfl,rfl,?_⟩;refine⟨_,a_ 32 rfl rfl (by decide),?_⟩;rintro r hs ⟨rfl,rfl⟩;refine⟨rfl,rfl,?_⟩;refine⟨_,H6 (B:=[dL false v0 n T]) (Fa v0 T n hl) (ahG (aZ.get 0 rfl)),?_⟩;rintro r hs ⟨v2,rfl,rfl⟩;have hM:=Mk hT n;have hS:yg n T=Sh.bytesOf (y_ (lX n T) ((n+8)/64+1)):=rfl;have hL:eH n=64*((n+8)/64+1):=rfl;obtain⟨A2,hA2⟩: ∃A2:Nat->Int,A2=λj=>((lX n T j:Nat):Int):=⟨_,rfl⟩
 refine⟨v2,(eH n:Int),A2,rfl,by rw[hA2];rfl,?_⟩;have hP: ∀j,j<eH n->A2 j=((lX n T j:Nat):Int):=λj _=>by rw[hA2]
 rw[hS];clear hA2 hS;generalize lX n T=M at*;refine⟨λe=> ∃q:Nat,64*q<=eH n/\e.i=eight (y_ M q) (64*q),λe=>((eH n:Int) - e.i.getD 8 0).toNat,⟨_,_,_,_,_,_,_,_,_,rfl,rfl,rfl,rfl,rfl,rfl,rfl,rfl,rfl,0,by omega,?_⟩,?_⟩
 .show _=eight H0 0;decide+kernel
 rintro x0 x1 x2 x3 x4 x5 x6 x7 x8 ⟨q,hq,hx⟩;simp only[eight,List.cons.injEq,and_true]at hx;obtain⟨rfl,rfl,rfl,rfl,rfl,rfl,rfl,rfl,rfl⟩:=hx;have hH:=Kz M q;refine⟨by omega,λ_=>⟨λcC=>?_,λlS=>?_⟩⟩
 .have hB: ∀j,j<64->(λi=>M (64*q+i)) j<256:=λj _=>hM _
  obtain⟨B,hBd⟩: ∃B:Nat->Nat,B=λi=>M (64*q+i):=⟨_,rfl⟩
  rw[<-hBd]at hB;have hMB: ∀j,j<64->A2 (64*q+j)=((B j:Nat):Int):=λj hj=>by rw[hP _ (by omega),hBd]
  refine⟨λe=> ∃t:Nat,t<=16/\e.i=[(t:Int)]/\∀j,j<t->e.a.getD 0 (λ_=>0) j=((word B j:Nat):Int),λe=>(16 - e.i.getD 0 0).toNat,⟨_,0,λ_=>0,rfl,rfl,rfl,rfl,λ_ _=>rfl,0,by omega,rfl,λj hj=>absurd hj (by omega)⟩,?_⟩;rintro v4 x9 A3 ⟨t,ht,hx,h3⟩;simp only[List.cons.injEq,and_true]at hx;subst hx;simp only[ah]at h3;rw[ahF (by omega)];refine⟨λcC=>?_,λlS=>?_⟩
  .rw [show ag (((64*q:Nat):Int)+((4*t:Nat):Int))=64*q+4*t by omega,show ag (((64*q:Nat):Int)+((4*t:Nat):Int)+1)=64*q+(4*t+1) by omega,show ag (((64*q:Nat):Int)+((4*t:Nat):Int)+2)=64*q+(4*t+2) by omega,show ag (((64*q:Nat):Int)+((4*t:Nat):Int)+3)=64*q+(4*t+3) by omega];rw[hMB _ (by omega),hMB _ (by omega),hMB _ (by omega),hMB _ (by omega),acR (hB _ (by omega)) (hB _ (by omega)) (hB _ (by omega)) (hB _ (by omega))];refine⟨by omega,λ_=>?_⟩;refine⟨by omega,λ_=>?_⟩;refine⟨by omega,λ_=>?_⟩;refine⟨by omega,λ_=>?_⟩;refine⟨by omega,λ_=>?_⟩;refine⟨by omega,λ_=>?_⟩;refine⟨by omega,λ_=>?_⟩;refine⟨by omega,λ_=>?_⟩;refine⟨by omega,λ_=>?_⟩;refine⟨by omega,λ_=>?_⟩;refine⟨by omega,λ_=>?_⟩;refine⟨by omega,λ_=>?_⟩;refine⟨by omega,λ_=>?_⟩;refine⟨by omega,λ_=>?_⟩;refine⟨by omega,λ_=>?_⟩;refine⟨by omega,λ_=>?_⟩;refine⟨by omega,λ_=>?_⟩;refine⟨by omega,λ_=>?_⟩;intro b1;refine⟨by omega,λ_=>?_⟩;refine⟨by omega,λ_=>?_⟩;intro v5;refine⟨by omega,λ_=>?_⟩;refine⟨by omega,λ_=>?_⟩;refine⟨_,(t:Int)+1,_,rfl,rfl,rfl,rfl,λ_ _=>rfl,⟨t+1,by omega,rfl,λj hj=>?_⟩,?_⟩
   .simp only[ah];rw[ax3];by_cases Kw:j=t
    .subst Kw;unfold au;rw[if_pos rfl];rfl
    .rw [Mj Kw];exact h3 j (by omega)
   .simp only[ah];omega
  have aok:t=16:=by omega
  subst aok;refine⟨λe=> ∃n:Nat,n<=48/\e.i=[((n+16:Nat):Int)]/\∀j,j<n+16->e.a.getD 0 (λ_=>0) j=((iu B n j:Nat):Int),λe=>(64 - e.i.getD 0 0).toNat,⟨_,_,A3,rfl,rfl,rfl,rfl,λ_ _=>rfl,0,by omega,rfl,λj hj=>?_⟩,?_⟩
  .simp only[ah];rw[h3 j (by omega)];unfold iu;rw[if_pos (by omega)]
  rintro v5 bA A4 ⟨n,hn,hx,h4⟩;simp only[List.cons.injEq,and_true]at hx;subst hx;simp only[ah]at h4;have hl:=Ku hB n;refine⟨λcC=>?_,λlS=>?_⟩
  .rw [show ag (((n+16:Nat):Int) - 2)=n+14 by omega,show ag (((n+16:Nat):Int) - 7)=n+9 by omega,show ag (((n+16:Nat):Int) - 15)=n+1 by omega,show ag (((n+16:Nat):Int) - 16)=n by omega];rw[h4 (n+14) (by omega),h4 (n+9) (by omega),h4 (n+1) (by omega),h4 n (by omega)];refine⟨by omega,λ_=>?_⟩;refine⟨by omega,λ_=>?_⟩;refine⟨by omega,λ_=>?_⟩;refine⟨by omega,λ_=>?_⟩;refine⟨by omega,λ_=>?_⟩;refine⟨by omega,λ_=>?_⟩;refine⟨by omega,λ_=>?_⟩;refine⟨by omega,λ_=>?_⟩;refine⟨by omega,λ_=>?_⟩;refine⟨by omega,λ_=>?_⟩;refine⟨by omega,λ_=>?_⟩;refine⟨by omega,λ_=>?_⟩;refine⟨by omega,λ_=>?_⟩;refine⟨by omega,λ_=>?_⟩;refine⟨by omega,λ_=>?_⟩;refine⟨by omega,λ_=>?_⟩;refine⟨_,Il _ (hl _),?_⟩;rintro r hs ⟨rfl,rfl⟩;refine⟨_,rfl,rfl,?_⟩;refine⟨_,Ik _ (hl _),?_⟩;rintro r hs ⟨rfl,rfl⟩;refine⟨_,rfl,rfl,?_⟩;refine⟨_,a_ 32 rfl rfl (by decide),?_⟩;rintro r hs ⟨rfl,rfl⟩;refine⟨rfl,rfl,?_⟩;rw[ahO (ahu (hl _)) (hl _) (aht (hl _)) (hl _)];intro b1;refine⟨by omega,λ_=>?_⟩;refine⟨by omega,λ_=>?_⟩;intro v6;refine⟨by omega,λ_=>?_⟩;refine⟨by omega,λ_=>?_⟩;refine⟨_,((n+16:Nat):Int)+1,_,rfl,rfl,rfl,rfl,λ_ _=>rfl,⟨n+1,by omega,?_,λj hj=>?_⟩,?_⟩
   .exact congrArg (λx=>[x]) (show((n+16:Nat):Int)+1=((n+1+16:Nat):Int) by omega)
   .simp only[ah];rw[ax3,iu];unfold au;dsimp only;by_cases Kw:j=n+16
    .rw [if_pos Kw,if_pos Kw]
    .rw [if_neg Kw,if_neg Kw];exact h4 j (by omega)
   .simp only[ah];omega
  have aol:n=48:=by omega
  subst aol;intro v6 v7;have hv:=Kv (K:=K0) (W:=iu B 48) hH;refine⟨λe=> ∃a:Nat,a<=64/\e.i=[(a:Int)]/\∀j,j<8->e.a.getD 0 (λ_=>0) j=((XI K0 (iu B 48) (y_ M q) a j:Nat):Int),λe=>(64 - e.i.getD 0 0).toNat,⟨_,0,_,rfl,rfl,rfl,λ_ _=>rfl,0,by omega,rfl,λj hj=>?_⟩,?_⟩
  .simp only[ah];unfold au
   match j,hj with
   | 0,_=>rfl
   | 1,_=>rfl
   | 2,_=>rfl
   | 3,_=>rfl
   | 4,_=>rfl
   | 5,_=>rfl
   | 6,_=>rfl
   | 7,_=>rfl
  rintro v8 bH A5 ⟨a,ha,hx,h5⟩;simp only[List.cons.injEq,and_true]at hx;subst hx;simp only[ah]at h5;refine⟨λcC=>?_,λlS=>?_⟩
  .rw [ax3,hC a (by omega),h4 a (by omega)];refine⟨by omega,λ_=>?_⟩;refine⟨by omega,λ_=>?_⟩;refine⟨by omega,λ_=>?_⟩;refine⟨_,Pj v8 A5 (XI K0 (iu B 48) (y_ M q) a) (K0 a) (iu B 48 a) h5 (hv a) (ahB a (by omega)) (hl a),?_⟩;rintro r hs ⟨v9,A6,rfl,rfl,h6⟩;refine⟨v9,A6,rfl,rfl,?_⟩;refine⟨by omega,λ_=>?_⟩;refine⟨by omega,λ_=>?_⟩;refine⟨_,(a:Int)+1,A6,rfl,rfl,rfl,λ_ _=>rfl,⟨a+1,by omega,rfl,h6⟩,?_⟩;simp only[ah];omega
  have Ky:a=64:=by omega
  subst Ky;refine⟨_,a_ 32 rfl rfl (by decide),?_⟩;rintro r hs ⟨rfl,rfl⟩;refine⟨rfl,rfl,?_⟩;refine⟨_,a_ 32 rfl rfl (by decide),?_⟩;rintro r hs ⟨rfl,rfl⟩;refine⟨rfl,rfl,?_⟩;refine⟨_,a_ 32 rfl rfl (by decide),?_⟩;rintro r hs ⟨rfl,rfl⟩;refine⟨rfl,rfl,?_⟩;refine⟨_,a_ 32 rfl rfl (by decide),?_⟩;rintro r hs ⟨rfl,rfl⟩;refine⟨rfl,rfl,?_⟩;refine⟨_,a_ 32 rfl rfl (by decide),?_⟩;rintro r hs ⟨rfl,rfl⟩;refine⟨rfl,rfl,?_⟩;refine⟨_,a_ 32 rfl rfl (by decide),?_⟩;rintro r hs ⟨rfl,rfl⟩;refine⟨rfl,rfl,?_⟩;refine⟨_,a_ 32 rfl rfl (by decide),?_⟩;rintro r hs ⟨rfl,rfl⟩;refine⟨rfl,rfl,?_⟩;refine⟨_,a_ 32 rfl rfl (by decide),?_⟩;rintro r hs ⟨rfl,rfl⟩;refine⟨rfl,rfl,?_⟩;have Fb:=hv 64;obtain⟨R,hR⟩: ∃R:Nat->Nat,R=XI K0 (iu B 48) (y_ M q) 64:=⟨_,rfl⟩;have hc:=E3 hR;rw[<-hR]at h5 Fb;have hs:y_ M (q+1)=comp K0 (y_ M q) B:=by rw[hBd];rfl
  rw[h5 0 (by omega),h5 1 (by omega),h5 2 (by omega),h5 3 (by omega),h5 4 (by omega),h5 5 (by omega),h5 6 (by omega),h5 7 (by omega)];rw[zd (hH 0 (by omega)) (Fb 0 (by omega)),zd (hH 1 (by omega)) (Fb 1 (by omega)),zd (hH 2 (by omega)) (Fb 2 (by omega)),zd (hH 3 (by omega)) (Fb 3 (by omega)),zd (hH 4 (by omega)) (Fb 4 (by omega)),zd (hH 5 (by omega)) (Fb 5 (by omega)),zd (hH 6 (by omega)) (Fb 6 (by omega)),zd (hH 7 (by omega)) (Fb 7 (by omega))];rw[<-hc 0,<-hc 1,<-hc 2,<-hc 3,<-hc 4,<-hc 5,<-hc 6,<-hc 7,<-hs];refine⟨by omega,λ_=>?_⟩;refine⟨by omega,λ_=>?_⟩;refine⟨_,_,_,_,_,_,_,_,((64*q:Nat):Int)+64,rfl,rfl,rfl,rfl,rfl,rfl,rfl,rfl,rfl,⟨q+1,by omega,?_⟩,?_⟩
  .rw [show((64*q:Nat):Int)+64=((64*(q+1):Nat):Int) by omega];rfl
  .simp only[ah,ayI];omega
 have hqe:q=(n+8)/64+1:=by omega
 rw[<-hqe];generalize y_ M q=C at*;refine⟨λe=> ∃a:Nat,a<=8/\e.i=[(a:Int),((4*a:Nat):Int)]/\(∀j,j<8->e.a.getD 1 (λ_=>0) j=((C j:Nat):Int))/\∀j,j<4*a->e.a.getD 0 (λ_=>0) j=((Sh.bytesOf C j:Nat):Int),λe=>(8 - e.i.getD 0 0).toNat,
  ⟨_,0,0,λ_=>0,_,rfl,rfl,λ_ _=>rfl,rfl,rfl,λ_ _=>rfl,0,by omega,rfl,λj hj=>?_,λj hj=>absurd hj (by omega)⟩,?_⟩
 .simp only[ah,ayI];unfold au
  match j,hj with
  | 0,_=>rfl
  | 1,_=>rfl
  | 2,_=>rfl
  | 3,_=>rfl
  | 4,_=>rfl
  | 5,_=>rfl
  | 6,_=>rfl
  | 7,_=>rfl
 rintro v4 x9 bA A3 A4 ⟨a,ha,hx,h4,h3⟩;simp only[List.cons.injEq,and_true]at hx;obtain⟨rfl,rfl⟩:=hx;simp only[ah,ayI]at h4 h3;refine⟨λcC=>?_,λlS=>?_⟩
 .rw [show ag (a:Int)=a from ax3 a,h4 a (by omega),o24 (hH a (by omega)),o16 (hH a (by omega)),o8 (hH a (by omega)),o0 (hH a (by omega))];refine⟨by omega,λ_=>?_⟩;refine⟨_,a_ 24 rfl rfl (by decide),?_⟩;rintro r hs ⟨rfl,rfl⟩;refine⟨rfl,rfl,?_⟩;intro b1;refine⟨by omega,λ_=>?_⟩;refine⟨by omega,λ_=>?_⟩;intro v5;refine⟨_,a_ 16 rfl rfl (by decide),?_⟩;rintro r hs ⟨rfl,rfl⟩;refine⟨rfl,rfl,?_⟩;intro b2;refine⟨by omega,λ_=>?_⟩;refine⟨by omega,λ_=>?_⟩;intro v6;refine⟨_,a_ 8 rfl rfl (by decide),?_⟩;rintro r hs ⟨rfl,rfl⟩;refine⟨rfl,rfl,?_⟩;intro b3;refine⟨by omega,λ_=>?_⟩;refine⟨by omega,λ_=>?_⟩;intro v7;refine⟨_,a_ 0 rfl rfl (by decide),?_⟩;rintro r hs ⟨rfl,rfl⟩;refine⟨rfl,rfl,?_⟩;intro b4;refine⟨by omega,λ_=>?_⟩;refine⟨by omega,λ_=>?_⟩;intro v8;refine⟨by omega,λ_=>?_⟩;refine⟨by omega,λ_=>?_⟩;refine⟨_,(a:Int)+1,_,_,A4,rfl,rfl,λ_ _=>rfl,rfl,rfl,λ_ _=>rfl,⟨a+1,by omega,?_,?_,λj hj=>?_⟩,?_⟩
  .rw [show((4*a:Nat):Int)+1+1+1+1=((4*(a+1):Nat):Int) by omega];rfl
  .simp only[ah,ayI];exact h4
  .simp only[ah];rw[show ag ((4*a:Nat):Int)=4*a by omega,show ag (((4*a:Nat):Int)+1)=4*a+1 by omega,show ag (((4*a:Nat):Int)+1+1)=4*a+2 by omega,show ag (((4*a:Nat):Int)+1+1+1)=4*a+3 by omega];unfold au Sh.bytesOf;by_cases j3:j=4*a+3
   .rw [if_pos j3,show j/4=a by omega,show 24 - 8*(j%4)=0 by omega]
   rw[if_neg j3];by_cases j2:j=4*a+2
   .rw [if_pos j2,show j/4=a by omega,show 24 - 8*(j%4)=8 by omega]
   rw[if_neg j2];by_cases j1:j=4*a+1
   .rw [if_pos j1,show j/4=a by omega,show 24 - 8*(j%4)=16 by omega]
   rw[if_neg j1];by_cases j0:j=4*a
   .rw [if_pos j0,show j/4=a by omega,show 24 - 8*(j%4)=24 by omega]
   rw[if_neg j0];exact h3 j (by omega)
  .simp only[ah];omega
 have ha8:a=8:=by omega
 subst ha8;refine⟨v4,rfl,?_⟩;show [aA true 5 1 v4.v 32 (aG 32 [ax .u8 1 A3])]=_;unfold dL;rw[oC h3]
end Go.RX.Fn
