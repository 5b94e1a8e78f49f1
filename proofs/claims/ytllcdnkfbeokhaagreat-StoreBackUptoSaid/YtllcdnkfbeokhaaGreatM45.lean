/- Sums and MACs. -/
import Derived.Test.YtllcdnkfbeokhaaGreatFnL
open Go.IntKind renaming wrap → ae
open Go.Proofs.Tryz renaming prog → auN
open Int renaming toNat → ag, toNat_natCast → auD
open List renaming getD_cons_zero → ah, length_append → aum, mem_append → auE, mem_singleton → auz
open Nat renaming lt_of_lt_of_le → auB
namespace Go.RX.Fn
open Go Go.RX Go.Proofs Go.RX.Sh Go.RX.Fg Go.RX.Fj Go.RX.Fk
open Go.RX.Fm (eight Ez Ll)
theorem Bf{m:Nat}(h:m<2^64):ae .u64 (ar .quo .u64 (m:Int) 256)=((m/256:Nat):Int):=by
 have e:ar .quo .u64 (m:Int) 256=((m/256:Nat):Int):=rfl;rw [e,wrap64 (Nat.lt_of_le_of_lt (Nat.div_le_self _ _) h)]
theorem yx(m:Nat):ae .u8 (ar .rem .u64 (m:Int) 256)=((m%256:Nat):Int):=by
 have h:ar .rem .u64 (m:Int) 256=((m%256:Nat):Int):=rfl;rw [h,wrap_u8];congr 1;omega
theorem W0{m:Nat}(hm:m<2^64)(j:Nat)(hj:j<8):
  (aw (aw (aw (aw (aw (aw (aw (aw (fun _=>0) 7 (ae .u8 (ar .rem .u64 (m:Int) 256))) 6 (ae .u8 (ar .rem .u64 (ae .u64 (ar .quo .u64 (m:Int) 256)) 256))) 5 (ae .u8 (ar .rem .u64 (ae .u64 (ar .quo .u64 (ae .u64 (ar .quo .u64 (m:Int) 256)) 256)) 256))) 4 (ae .u8 (ar .rem .u64 (ae .u64 (ar .quo .u64 (ae .u64 (ar .quo .u64 (ae .u64 (ar .quo .u64 (m:Int) 256)) 256)) 256)) 256))) 3 (ae .u8 (ar .rem .u64 (ae .u64 (ar .quo .u64 (ae .u64 (ar .quo .u64 (ae .u64 (ar .quo .u64 (ae .u64 (ar .quo .u64 (m:Int) 256)) 256)) 256)) 256)) 256))) 2 (ae .u8 (ar .rem .u64 (ae .u64 (ar .quo .u64 (ae .u64 (ar .quo .u64 (ae .u64 (ar .quo .u64 (ae .u64 (ar .quo .u64 (ae .u64 (ar .quo .u64 (m:Int) 256)) 256)) 256)) 256)) 256)) 256))) 1 (ae .u8 (ar .rem .u64 (ae .u64 (ar .quo .u64 (ae .u64 (ar .quo .u64 (ae .u64 (ar .quo .u64 (ae .u64 (ar .quo .u64 (ae .u64 (ar .quo .u64 (ae .u64 (ar .quo .u64 (m:Int) 256)) 256)) 256)) 256)) 256)) 256)) 256))) 0 (ae .u8 (ar .rem .u64 (ae .u64 (ar .quo .u64 (ae .u64 (ar .quo .u64 (ae .u64 (ar .quo .u64 (ae .u64 (ar .quo .u64 (ae .u64 (ar .quo .u64 (ae .u64 (ar .quo .u64 (ae .u64 (ar .quo .u64 (m:Int) 256)) 256)) 256)) 256)) 256)) 256)) 256)) 256))) j=(Ol m j:Nat):=by
 have l: ∀{k:Nat},k<2^64→k/256<2^64:=fun h=>Nat.lt_of_le_of_lt (Nat.div_le_self _ _) h
 rw [Bf hm,Bf (l hm),Bf (l (l hm)),Bf (l (l (l hm))),Bf (l (l (l (l hm)))),Bf (l (l (l (l (l hm))))),Bf (l (l (l (l (l (l hm))))))];rw [yx,yx,yx,yx,yx,yx,yx,yx];unfold Ol;have d: ∀k:Nat,m/256^k/256=m/256^(k+1):=fun k=>by rw [Nat.div_div_eq_div_mul,←Nat.pow_succ]
 have e1:m/256=m/256^1:=by rw [Nat.pow_one]
 rw [e1,d,d,d,d,d,d]
 match j,hj with
 | 0,_=>rfl
 | 1,_=>rfl
 | 2,_=>rfl
 | 3,_=>rfl
 | 4,_=>rfl
 | 5,_=>rfl
 | 6,_=>rfl
 | 7,_=>simp [aw]
 | j+8,h=>exact absurd h (by omega)
theorem EE(v0:V1)(T:Nat→Nat)(n:Nat)(hl:n+300≤140737488355328):aq auN 62 [v0.v,.int .i64 32] [dG false v0 n T] fun r hs=> ∃o:V1,r=o.v∧hs=[dG true o (eu n) (lh n T)]:=by
 refine aq.post (p:=fun r hs=> ∃o:V1,r=o.v∧hs[0]? =some (dG true o (eu n) (lh n T))) ?_ ?_;rotate_left
 ·rintro r hs ⟨o,rfl,h⟩;exact⟨_,bI.ae5 0 h,o,rfl,rfl⟩
 refine Iw _ (n:Int) (fun j=>(T j:Nat)) v0 ?_;unfold zK;have hL:eu n=64*((n+8)/64+1):=rfl;intro v1
 iterate 3 refine⟨by omega,fun _=>?_⟩
 intro v2 b0;refine⟨by omega,fun _=>?_⟩;intro v3;refine⟨fun e=> ∃k:Nat,n+1≤k∧k+8≤eu n∧e.i=[(k:Int)]∧∀j,j<k→(e.a.getD 0 fun _=>0) j=(lh n T j:Nat),fun e=>((eu n:Int) - e.i.getD 0 0).toNat,⟨v3,_,_,rfl,rfl,rfl,fun _ _=>rfl,n+1,by omega,by omega,by rw [Int.natCast_add];rfl,fun j hj=>?_⟩,?_⟩
 ·simp only [ah];rw [auD];unfold aw lh;split
  ·rename_i c;rw [if_neg (by omega)];rfl
  ·rw [if_pos (by omega)]
 rintro v4 x1 A1 ⟨k,hk1,hk2,hx,hA⟩;simp only [List.cons.injEq,and_true]at hx;subst hx;simp only [ah]at hA;have hr:ar .rem .i64 (k:Int) 64=((k%64:Nat):Int):=rfl;have tk:ag (k:Int)=k:=rfl;rw [hr,tk];refine⟨by omega,fun _=>⟨fun fy=>?_,fun heq=>?_⟩⟩
 ·intro b1;refine⟨by omega,fun _=>?_⟩;intro v5;refine⟨v5,_,_,rfl,rfl,rfl,fun _ _=>rfl,⟨k+1,by omega,by omega,by rw [Int.natCast_add];rfl,fun j hj=>?_⟩,?_⟩
  ·simp only [ah];unfold aw;split
   ·unfold lh;rw [if_neg (by omega),if_neg (by omega),if_pos (by omega)];rfl
   ·exact hA j (by omega)
  ·simp only [ah];omega
 ·have EF:k=eu n - 8:=by omega
  have hm:ae .u64 (8*(ae .u64 (n:Int)))=((n*8:Nat):Int):=by
   rw [wrap64 (by omega),show 8*(n:Int)=((n*8:Nat):Int) by omega,wrap64 (by omega)]
  rw [hm];intro v5;refine⟨by omega,fun _=>⟨by omega,fun _=>?_⟩⟩;intro v6;refine⟨v6,rfl,congrArg some ?_⟩;have t8:ag ((k:Int)+8)=eu n:=by omega
  dsimp only [bo,bi,bn];rw [t8];unfold dG;refine congrArg (aB true 5 1 v6.v (eu n)) (nL fun j hj=>?_);unfold bX;by_cases c:j<k
  ·rw [if_neg (by omega)];exact hA j c
  ·rw [if_pos (by omega),W0 (by omega) _ (by omega)];unfold lh;rw [if_neg (by omega),if_neg (by omega),if_neg (by omega),EF]
theorem abj(n:Nat):(256:Int)*(n:Int)=((n*256:Nat):Int):=by omega
theorem abk{a b c d:Nat}(ha:a<256)(hb:b<256)(hc:c<256)(hd:d<256):
  ae .u64 ((ae .u64 (256*(ae .u64 ((ae .u64 (256*(ae .u64 ((ae .u64 (256*(ae .u64 (ae .u64 (a:Int)))))+(ae .u64 (b:Int))))))+(ae .u64 (c:Int))))))+(ae .u64 (d:Int)))=((((a*256+b)*256+c)*256+d:Nat):Int):=by
 rw [wrap64 (n:=a) (by omega),wrap64 (n:=a) (by omega),abj a,wrap64 (n:=a*256) (by omega),wrap64 (n:=b) (by omega),ob (by omega),abj,wrap64 (n:=(a*256+b)*256) (by omega),wrap64 (n:=c) (by omega),ob (by omega),abj,wrap64 (n:=((a*256+b)*256+c)*256) (by omega),wrap64 (n:=d) (by omega),ob (by omega)]
theorem afe{a b c d:Nat}(ha:a<2^32)(hb:b<2^32)(hc:c<2^32)(hd:d<2^32):
  ar .rem .u64 (ae .u64 ((ae .u64 ((ae .u64 ((a:Int)+(b:Int)))+(c:Int)))+(d:Int))) 4294967296=(((a+b+c+d)%2^32:Nat):Int):=by
 rw [ob (by omega),ob (by omega),ob (by omega),CM]
theorem yy{a b:Nat}(ha:a<2^32)(hb:b<2^32):ar .rem .u64 (ae .u64 ((a:Int)+(b:Int))) 4294967296=(((a+b)%2^32:Nat):Int):=by
 rw [ob (by omega),CM]
theorem xA(a:Nat):ar .rem .u64 (a:Int) 256=((a%256:Nat):Int):=Dy a 256
theorem Lq{w n:Nat}(hw:w<2^32):ae .u8 (ar .rem .u64 (ae .u64 (ar .quo .u64 (w:Int) ((2^n:Nat):Int))) 256)=((w/2^n%256:Nat):Int):=by
 rw [Ks hw,xA,wrap_u8,Nat.mod_eq_of_lt (auB (Nat.mod_lt _ (by decide)) (by decide))]
theorem o24{w:Nat}(hw:w<2^32):ae .u8 (ar .rem .u64 (ae .u64 (ar .quo .u64 (w:Int) 16777216)) 256)=((w/2^24%256:Nat):Int):=Lq (n:=24) hw
theorem o16{w:Nat}(hw:w<2^32):ae .u8 (ar .rem .u64 (ae .u64 (ar .quo .u64 (w:Int) 65536)) 256)=((w/2^16%256:Nat):Int):=Lq (n:=16) hw
theorem o8{w:Nat}(hw:w<2^32):ae .u8 (ar .rem .u64 (ae .u64 (ar .quo .u64 (w:Int) 256)) 256)=((w/2^8%256:Nat):Int):=Lq (n:=8) hw
theorem o0{w:Nat}(hw:w<2^32):ae .u8 (ar .rem .u64 (ae .u64 (ar .quo .u64 (w:Int) 1)) 256)=((w/2^0%256:Nat):Int):=Lq (n:=0) hw
theorem ae6{t:Nat}(ht:t≤64):ae .i64 (ar .quo .i64 ((t:Int)*32) 8)=((4*t:Nat):Int):=by
 have h1:ar .quo .i64 ((t:Int)*32) 8=((t*32/8:Nat):Int):=by
  show Int.tdiv ((t:Int)*32) 8=_;rw [show(t:Int)*32=((t*32:Nat):Int) by omega];rfl
 rw [h1,show t*32/8=4*t by omega];simp [ae,IntKind.signed,IntKind.bits];omega
set_option maxHeartbeats 1000000 in
theorem JT(v0:V1)(T:Nat→Nat)(hT: ∀j,T j<256)(n:Nat)(hl:n+300≤140737488355328):aq auN 33 [v0.v,.int .i64 32] [dG false v0 n T] fun r hs=> ∃o:V1,r=o.v∧hs=[dG true o 32 (xu n T)]:=by
 refine Uk _ (n:Int) (fun j=>(T j:Nat)) v0 ?_;unfold Kq;intro b0;refine⟨_,Dz,?_⟩;rintro r hs ⟨v1,A1,rfl,rfl,hC⟩;refine⟨v1,A1,rfl,rfl,?_⟩;refine⟨_,bd 32 rfl rfl (by decide),?_⟩;rintro r hs ⟨rfl,rfl⟩;refine⟨rfl,rfl,?_⟩;refine⟨_,Hh (B:=[dG false v0 n T]) (EE v0 T n hl) (ae7 (bc.get 0 rfl)),?_⟩;rintro r hs ⟨v2,rfl,rfl⟩;have hM:=Lm hT n;have hS:xu n T=Sh.bytesOf (yu (lh n T) ((n+8)/64+1)):=rfl;have hL:eu n=64*((n+8)/64+1):=rfl;obtain⟨A2,hA2⟩: ∃A2:Nat→Int,A2=fun j=>((lh n T j:Nat):Int):=⟨_,rfl⟩
 refine⟨v2,(eu n:Int),A2,rfl,by rw [hA2];rfl,?_⟩;have hP: ∀j,j<eu n→A2 j=((lh n T j:Nat):Int):=fun j _=>by rw [hA2]
 rw [hS];clear hA2 hS;generalize lh n T=M at*;refine⟨fun e=> ∃q:Nat,64*q≤eu n∧e.i=eight (yu M q) (64*q),fun e=>((eu n:Int) - e.i.getD 8 0).toNat,⟨_,_,_,_,_,_,_,_,_,rfl,rfl,rfl,rfl,rfl,rfl,rfl,rfl,rfl,0,by omega,?_⟩,?_⟩
 ·show _=eight H0 0;decide+kernel
 rintro x0 x1 x2 x3 x4 x5 x6 x7 x8 ⟨q,hq,hx⟩;simp only [eight,List.cons.injEq,and_true]at hx;obtain⟨rfl,rfl,rfl,rfl,rfl,rfl,rfl,rfl,rfl⟩:=hx;have hH:=JM M q;refine⟨by omega,fun _=>⟨fun cF=>?_,fun mn=>?_⟩⟩
 ·have hB: ∀j,j<64→(fun i=>M (64*q+i)) j<256:=fun j _=>hM _
  obtain⟨B,hBd⟩: ∃B:Nat→Nat,B=fun i=>M (64*q+i):=⟨_,rfl⟩
  rw [←hBd]at hB;have hMB: ∀j,j<64→A2 (64*q+j)=((B j:Nat):Int):=fun j hj=>by rw [hP _ (by omega),hBd]
  refine⟨fun e=> ∃t:Nat,t≤16∧e.i=[(t:Int)]∧∀j,j<t→e.a.getD 0 (fun _=>0) j=((word B j:Nat):Int),fun e=>(16 - e.i.getD 0 0).toNat,⟨_,0,fun _=>0,rfl,rfl,rfl,rfl,fun _ _=>rfl,0,by omega,rfl,fun j hj=>absurd hj (by omega)⟩,?_⟩;rintro v4 x9 A3 ⟨t,ht,hx,h3⟩;simp only [List.cons.injEq,and_true]at hx;subst hx;simp only [ah]at h3;rw [ae6 (by omega)];refine⟨fun cF=>?_,fun mn=>?_⟩
  ·rw [show ag (((64*q:Nat):Int)+((4*t:Nat):Int))=64*q+4*t by omega,show ag (((64*q:Nat):Int)+((4*t:Nat):Int)+1)=64*q+(4*t+1) by omega,show ag (((64*q:Nat):Int)+((4*t:Nat):Int)+2)=64*q+(4*t+2) by omega,show ag (((64*q:Nat):Int)+((4*t:Nat):Int)+3)=64*q+(4*t+3) by omega];rw [hMB _ (by omega),hMB _ (by omega),hMB _ (by omega),hMB _ (by omega),abk (hB _ (by omega)) (hB _ (by omega)) (hB _ (by omega)) (hB _ (by omega))];refine⟨by omega,fun _=>?_⟩;refine⟨by omega,fun _=>?_⟩;refine⟨by omega,fun _=>?_⟩;refine⟨by omega,fun _=>?_⟩;refine⟨by omega,fun _=>?_⟩;refine⟨by omega,fun _=>?_⟩;refine⟨by omega,fun _=>?_⟩;refine⟨by omega,fun _=>?_⟩;refine⟨by omega,fun _=>?_⟩;refine⟨by omega,fun _=>?_⟩;refine⟨by omega,fun _=>?_⟩;refine⟨by omega,fun _=>?_⟩;refine⟨by omega,fun _=>?_⟩;refine⟨by omega,fun _=>?_⟩;refine⟨by omega,fun _=>?_⟩;refine⟨by omega,fun _=>?_⟩;refine⟨by omega,fun _=>?_⟩;refine⟨by omega,fun _=>?_⟩;intro b1;refine⟨by omega,fun _=>?_⟩;refine⟨by omega,fun _=>?_⟩;intro v5;refine⟨by omega,fun _=>?_⟩;refine⟨by omega,fun _=>?_⟩;refine⟨_,(t:Int)+1,_,rfl,rfl,rfl,rfl,fun _ _=>rfl,⟨t+1,by omega,rfl,fun j hj=>?_⟩,?_⟩
   ·simp only [ah];rw [auD];by_cases JJ:j=t
    ·subst JJ;unfold aw;rw [if_pos rfl];rfl
    ·rw [Ll JJ];exact h3 j (by omega)
   ·simp only [ah];omega
  have alI:t=16:=by omega
  subst alI;refine⟨fun e=> ∃n:Nat,n≤48∧e.i=[((n+16:Nat):Int)]∧∀j,j<n+16→e.a.getD 0 (fun _=>0) j=((gP B n j:Nat):Int),fun e=>(64 - e.i.getD 0 0).toNat,⟨_,_,A3,rfl,rfl,rfl,rfl,fun _ _=>rfl,0,by omega,rfl,fun j hj=>?_⟩,?_⟩
  ·simp only [ah];rw [h3 j (by omega)];unfold gP;rw [if_pos (by omega)]
  rintro v5 bE A4 ⟨n,hn,hx,h4⟩;simp only [List.cons.injEq,and_true]at hx;subst hx;simp only [ah]at h4;have hl:=JH hB n;refine⟨fun cF=>?_,fun mn=>?_⟩
  ·rw [show ag (((n+16:Nat):Int) - 2)=n+14 by omega,show ag (((n+16:Nat):Int) - 7)=n+9 by omega,show ag (((n+16:Nat):Int) - 15)=n+1 by omega,show ag (((n+16:Nat):Int) - 16)=n by omega];rw [h4 (n+14) (by omega),h4 (n+9) (by omega),h4 (n+1) (by omega),h4 n (by omega)];refine⟨by omega,fun _=>?_⟩;refine⟨by omega,fun _=>?_⟩;refine⟨by omega,fun _=>?_⟩;refine⟨by omega,fun _=>?_⟩;refine⟨by omega,fun _=>?_⟩;refine⟨by omega,fun _=>?_⟩;refine⟨by omega,fun _=>?_⟩;refine⟨by omega,fun _=>?_⟩;refine⟨by omega,fun _=>?_⟩;refine⟨by omega,fun _=>?_⟩;refine⟨by omega,fun _=>?_⟩;refine⟨by omega,fun _=>?_⟩;refine⟨by omega,fun _=>?_⟩;refine⟨by omega,fun _=>?_⟩;refine⟨by omega,fun _=>?_⟩;refine⟨by omega,fun _=>?_⟩;refine⟨_,FF _ (hl _),?_⟩;rintro r hs ⟨rfl,rfl⟩;refine⟨_,rfl,rfl,?_⟩;refine⟨_,FE _ (hl _),?_⟩;rintro r hs ⟨rfl,rfl⟩;refine⟨_,rfl,rfl,?_⟩;refine⟨_,bd 32 rfl rfl (by decide),?_⟩;rintro r hs ⟨rfl,rfl⟩;refine⟨rfl,rfl,?_⟩;rw [afe (aeY (hl _)) (hl _) (aeX (hl _)) (hl _)];intro b1;refine⟨by omega,fun _=>?_⟩;refine⟨by omega,fun _=>?_⟩;intro v6;refine⟨by omega,fun _=>?_⟩;refine⟨by omega,fun _=>?_⟩;refine⟨_,((n+16:Nat):Int)+1,_,rfl,rfl,rfl,rfl,fun _ _=>rfl,⟨n+1,by omega,?_,fun j hj=>?_⟩,?_⟩
   ·exact congrArg (fun x=>[x]) (show((n+16:Nat):Int)+1=((n+1+16:Nat):Int) by omega)
   ·simp only [ah];rw [auD,gP];unfold aw;dsimp only;by_cases JJ:j=n+16
    ·rw [if_pos JJ,if_pos JJ]
    ·rw [if_neg JJ,if_neg JJ];exact h4 j (by omega)
   ·simp only [ah];omega
  have alJ:n=48:=by omega
  subst alJ;intro v6 v7;have hv:=JI (K:=K0) (W:=gP B 48) hH;refine⟨fun e=> ∃a:Nat,a≤64∧e.i=[(a:Int)]∧∀j,j<8→e.a.getD 0 (fun _=>0) j=((WR K0 (gP B 48) (yu M q) a j:Nat):Int),fun e=>(64 - e.i.getD 0 0).toNat,⟨_,0,_,rfl,rfl,rfl,fun _ _=>rfl,0,by omega,rfl,fun j hj=>?_⟩,?_⟩
  ·simp only [ah];unfold aw
   match j,hj with
   | 0,_=>rfl
   | 1,_=>rfl
   | 2,_=>rfl
   | 3,_=>rfl
   | 4,_=>rfl
   | 5,_=>rfl
   | 6,_=>rfl
   | 7,_=>rfl
  rintro v8 bO A5 ⟨a,ha,hx,h5⟩;simp only [List.cons.injEq,and_true]at hx;subst hx;simp only [ah]at h5;refine⟨fun cF=>?_,fun mn=>?_⟩
  ·rw [auD,hC a (by omega),h4 a (by omega)];refine⟨by omega,fun _=>?_⟩;refine⟨by omega,fun _=>?_⟩;refine⟨by omega,fun _=>?_⟩;refine⟨_,Mg v8 A5 (WR K0 (gP B 48) (yu M q) a) (K0 a) (gP B 48 a) h5 (hv a) (ae2 a (by omega)) (hl a),?_⟩;rintro r hs ⟨v9,A6,rfl,rfl,h6⟩;refine⟨v9,A6,rfl,rfl,?_⟩;refine⟨by omega,fun _=>?_⟩;refine⟨by omega,fun _=>?_⟩;refine⟨_,(a:Int)+1,A6,rfl,rfl,rfl,fun _ _=>rfl,⟨a+1,by omega,rfl,h6⟩,?_⟩;simp only [ah];omega
  have JL:a=64:=by omega
  subst JL;refine⟨_,bd 32 rfl rfl (by decide),?_⟩;rintro r hs ⟨rfl,rfl⟩;refine⟨rfl,rfl,?_⟩;refine⟨_,bd 32 rfl rfl (by decide),?_⟩;rintro r hs ⟨rfl,rfl⟩;refine⟨rfl,rfl,?_⟩;refine⟨_,bd 32 rfl rfl (by decide),?_⟩;rintro r hs ⟨rfl,rfl⟩;refine⟨rfl,rfl,?_⟩;refine⟨_,bd 32 rfl rfl (by decide),?_⟩;rintro r hs ⟨rfl,rfl⟩;refine⟨rfl,rfl,?_⟩;refine⟨_,bd 32 rfl rfl (by decide),?_⟩;rintro r hs ⟨rfl,rfl⟩;refine⟨rfl,rfl,?_⟩;refine⟨_,bd 32 rfl rfl (by decide),?_⟩;rintro r hs ⟨rfl,rfl⟩;refine⟨rfl,rfl,?_⟩;refine⟨_,bd 32 rfl rfl (by decide),?_⟩;rintro r hs ⟨rfl,rfl⟩;refine⟨rfl,rfl,?_⟩;refine⟨_,bd 32 rfl rfl (by decide),?_⟩;rintro r hs ⟨rfl,rfl⟩;refine⟨rfl,rfl,?_⟩;have EG:=hv 64;obtain⟨R,hR⟩: ∃R:Nat→Nat,R=WR K0 (gP B 48) (yu M q) 64:=⟨_,rfl⟩;have hc:=Ez hR;rw [←hR]at h5 EG;have hs:yu M (q+1)=comp K0 (yu M q) B:=by rw [hBd];rfl
  rw [h5 0 (by omega),h5 1 (by omega),h5 2 (by omega),h5 3 (by omega),h5 4 (by omega),h5 5 (by omega),h5 6 (by omega),h5 7 (by omega)];rw [yy (hH 0 (by omega)) (EG 0 (by omega)),yy (hH 1 (by omega)) (EG 1 (by omega)),yy (hH 2 (by omega)) (EG 2 (by omega)),yy (hH 3 (by omega)) (EG 3 (by omega)),yy (hH 4 (by omega)) (EG 4 (by omega)),yy (hH 5 (by omega)) (EG 5 (by omega)),yy (hH 6 (by omega)) (EG 6 (by omega)),yy (hH 7 (by omega)) (EG 7 (by omega))];rw [←hc 0,←hc 1,←hc 2,←hc 3,←hc 4,←hc 5,←hc 6,←hc 7,←hs];refine⟨by omega,fun _=>?_⟩;refine⟨by omega,fun _=>?_⟩;refine⟨_,_,_,_,_,_,_,_,((64*q:Nat):Int)+64,rfl,rfl,rfl,rfl,rfl,rfl,rfl,rfl,rfl,⟨q+1,by omega,?_⟩,?_⟩
  ·rw [show((64*q:Nat):Int)+64=((64*(q+1):Nat):Int) by omega];rfl
  ·simp only [ah,List.getD_cons_succ];omega
 have hqe:q=(n+8)/64+1:=by omega
 rw [←hqe];generalize yu M q=C at*;refine⟨fun e=> ∃a:Nat,a≤8∧e.i=[(a:Int),((4*a:Nat):Int)]∧(∀j,j<8→e.a.getD 1 (fun _=>0) j=((C j:Nat):Int))∧∀j,j<4*a→e.a.getD 0 (fun _=>0) j=((Sh.bytesOf C j:Nat):Int),fun e=>(8 - e.i.getD 0 0).toNat,
  ⟨_,0,0,fun _=>0,_,rfl,rfl,fun _ _=>rfl,rfl,rfl,fun _ _=>rfl,0,by omega,rfl,fun j hj=>?_,fun j hj=>absurd hj (by omega)⟩,?_⟩
 ·simp only [ah,List.getD_cons_succ];unfold aw
  match j,hj with
  | 0,_=>rfl
  | 1,_=>rfl
  | 2,_=>rfl
  | 3,_=>rfl
  | 4,_=>rfl
  | 5,_=>rfl
  | 6,_=>rfl
  | 7,_=>rfl
 rintro v4 x9 bE A3 A4 ⟨a,ha,hx,h4,h3⟩;simp only [List.cons.injEq,and_true]at hx;obtain⟨rfl,rfl⟩:=hx;simp only [ah,List.getD_cons_succ]at h4 h3;refine⟨fun cF=>?_,fun mn=>?_⟩
 ·rw [show ag (a:Int)=a from auD a,h4 a (by omega),o24 (hH a (by omega)),o16 (hH a (by omega)),o8 (hH a (by omega)),o0 (hH a (by omega))];refine⟨by omega,fun _=>?_⟩;refine⟨_,bd 24 rfl rfl (by decide),?_⟩;rintro r hs ⟨rfl,rfl⟩;refine⟨rfl,rfl,?_⟩;intro b1;refine⟨by omega,fun _=>?_⟩;refine⟨by omega,fun _=>?_⟩;intro v5;refine⟨_,bd 16 rfl rfl (by decide),?_⟩;rintro r hs ⟨rfl,rfl⟩;refine⟨rfl,rfl,?_⟩;intro b2;refine⟨by omega,fun _=>?_⟩;refine⟨by omega,fun _=>?_⟩;intro v6;refine⟨_,bd 8 rfl rfl (by decide),?_⟩;rintro r hs ⟨rfl,rfl⟩;refine⟨rfl,rfl,?_⟩;intro b3;refine⟨by omega,fun _=>?_⟩;refine⟨by omega,fun _=>?_⟩;intro v7;refine⟨_,bd 0 rfl rfl (by decide),?_⟩;rintro r hs ⟨rfl,rfl⟩;refine⟨rfl,rfl,?_⟩;intro b4;refine⟨by omega,fun _=>?_⟩;refine⟨by omega,fun _=>?_⟩;intro v8;refine⟨by omega,fun _=>?_⟩;refine⟨by omega,fun _=>?_⟩;refine⟨_,(a:Int)+1,_,_,A4,rfl,rfl,fun _ _=>rfl,rfl,rfl,fun _ _=>rfl,⟨a+1,by omega,?_,?_,fun j hj=>?_⟩,?_⟩
  ·rw [show((4*a:Nat):Int)+1+1+1+1=((4*(a+1):Nat):Int) by omega];rfl
  ·simp only [ah,List.getD_cons_succ];exact h4
  ·simp only [ah];rw [show ag ((4*a:Nat):Int)=4*a by omega,show ag (((4*a:Nat):Int)+1)=4*a+1 by omega,show ag (((4*a:Nat):Int)+1+1)=4*a+2 by omega,show ag (((4*a:Nat):Int)+1+1+1)=4*a+3 by omega];unfold aw Sh.bytesOf;by_cases j3:j=4*a+3
   ·rw [if_pos j3,show j/4=a by omega,show 24 - 8*(j%4)=0 by omega]
   rw [if_neg j3];by_cases j2:j=4*a+2
   ·rw [if_pos j2,show j/4=a by omega,show 24 - 8*(j%4)=8 by omega]
   rw [if_neg j2];by_cases j1:j=4*a+1
   ·rw [if_pos j1,show j/4=a by omega,show 24 - 8*(j%4)=16 by omega]
   rw [if_neg j1];by_cases j0:j=4*a
   ·rw [if_pos j0,show j/4=a by omega,show 24 - 8*(j%4)=24 by omega]
   rw [if_neg j0];exact h3 j (by omega)
  ·simp only [ah];omega
 have ha8:a=8:=by omega
 subst ha8;refine⟨v4,rfl,?_⟩;show [aB true 5 1 v4.v 32 (aM 32 [ay .u8 1 A3])]=_;unfold dG;rw [nL h3]
end Go.RX.Fn

namespace Go.RX.Vb
open Go Go.RX Go.Proofs Go.Vs Go.RX.Sh
theorem xA(x:Nat):ar .rem .u64 (x:Int) 256=((x%256:Nat):Int):=rfl
theorem JU(x:Nat):ar .quo .u64 (x:Int) 256=((x/256:Nat):Int):=rfl
theorem Ow(v:V1)(l:List Nat)(h: ∀x∈l,x<256)(hl:l.length+300≤140737488355328):aq auN 33 [v.v,.int .i64 32] [aR false v.v l] fun r hs=> ∃o:V1,r=o.v∧hs=[aR true o.v (eu l)]:=by
 refine aq.post (Fn.JT v (fun j=>l.getD j 0) (Lo h) l.length hl) ?_;rintro r hs ⟨o,rfl,rfl⟩;refine⟨_,bI.refl _,o,rfl,?_⟩;have e:aM 32 [ay .u8 1 fun j=>((xu l.length (fun j=>l.getD j 0) j:Nat):Int)]=aM 32 [ay .u8 1 (aI (eu l))]:=Fg.nL fun j hj=>(Hl l hj).symm
 show [aB true 5 1 o.v 32 (aM 32 [ay .u8 1 fun j=>((xu l.length (fun j=>l.getD j 0) j:Nat):Int)])]=[aB true 5 1 o.v (eu l).length (aM (eu l).length [ay .u8 1 (aI (eu l))])];rw [e,cm]
theorem SY(v:V1)(l:List Nat)(h: ∀x∈l,x<256)(hl:l.length+300≤140737488355328):aq auN 33 [v.v,.int .i64 32] [aR true v.v l] fun r hs=> ∃o:V1,r=o.v∧hs=[aR true v.v l,aR true o.v (eu l)]:=by
 refine aq.post (aq.Co (A:=[]) (L:=[aR false v.v l]) (B:=[aR true v.v l]) (Ow v l h hl) ?_ ?_) ?_
 ·rintro _ hs ⟨o,_,rfl⟩ x hx;rw [auz.1 hx];rfl
 ·intro x hx;rw [auz.1 hx];exact bc.own
 ·rintro r hs ⟨yS,⟨o,rfl,rfl⟩,rfl⟩;exact⟨_,bI.perm (List.Perm.swap _ _ _),o,rfl,rfl⟩
theorem yz(v:V1)(l:List Nat)(h: ∀x∈l,x<256)(hn:l.length<256^4):aq auN 14 [v.v] [aR false v.v l] fun r hs=> ∃o:V1,r=o.v∧hs=[aR true o.v (cy l)]:=by
 refine SW _ (l.length:Int) (aI l) v ?_;unfold Hp;have UI:l.length<4294967296:=hn;intro b0;refine⟨by omega,fun _=>?_⟩;intro v1 v2;refine⟨by omega,fun _=>?_⟩;intro v3;have hb:cj (aw (aw (aw (aw (aw (aw (fun _=>(0:Int)) 0 72) 1 76) 2 83) 3 84) 4 0) 5 1) eB:=by
  intro j hj
  match j,hj with
  | 0,_=>rfl
  | 1,_=>rfl
  | 2,_=>rfl
  | 3,_=>rfl
  | 4,_=>rfl
  | 5,_=>rfl
  | j+6,hj=>exact absurd hj (by simp [eB])
 rw [iV hn,JU,iV (by omega),JU,iV (by omega),JU,iV (by omega),xA,xA,xA,xA,V9 (Nat.mod_lt _ (by decide)),V9 (Nat.mod_lt _ (by decide)),V9 (Nat.mod_lt _ (by decide)),V9 (Nat.mod_lt _ (by decide))];have h1:cj (bX (aw (aw (aw (aw (aw (aw (fun _=>(0:Int)) 0 72) 1 76) 2 83) 3 84) 4 0) 5 1) 6 4 (aw (aw (aw (aw (fun _=>0) 3 ((l.length%256:Nat):Int)) 2 ((l.length/256%256:Nat):Int)) 1 ((l.length/256/256%256:Nat):Int)) 0 ((l.length/256/256/256%256:Nat):Int))) (eB++be 4 l.length):=hb.jI rfl (au 4 _).symm fun j hj=>by
  match j,hj with
  | 0,_=>rfl
  | 1,_=>rfl
  | 2,_=>rfl
  | 3,_=>rfl
  | j+4,hj=>omega
 have h2:cj _ (fP l):=h1.jI (o:=10) (n:=ag (l.length:Int)) (g:=aI l) (by simp [eB,au]) (auD _) fun _ _=>rfl
 have e1:ag (10+(l.length:Int))=(fP l).length:=by rw [cA];omega
 rw [e1,h2.xi];refine⟨_,SY v3 (fP l) (wi h) (by rw [cA];omega),?_⟩;rintro x lP ⟨o,rfl,rfl⟩;refine⟨o,aI (eu (fP l)),rfl,?_,?_⟩
 ·rw [aR,aR,cm];rfl
 refine⟨by omega,fun _=>⟨by omega,fun _=>?_⟩⟩;intro v5;have h3:cj (bX (bX (bX (aw (aw (aw (aw (aw (aw (fun _=>(0:Int)) 0 72) 1 76) 2 83) 3 84) 4 0) 5 1) 6 4 (aw (aw (aw (aw (fun _=>0) 3 ((l.length%256:Nat):Int)) 2 ((l.length/256%256:Nat):Int)) 1 ((l.length/256/256%256:Nat):Int)) 0 ((l.length/256/256/256%256:Nat):Int))) 10 (ag (l.length:Int)) (aI l)) (fP l).length 8 (aI (eu (fP l)))) (cy l):=h2.jI rfl (by rw [List.length_take,cm];rfl) fun j hj=>by
  rw [gj (by rw [cm];omega),gj (by rw [List.length_take,cm];omega),List.getElem_take]
 have e2:ag (10+(l.length:Int)+8)=(cy l).length:=by
  rw [cy,aum,cA,List.length_take,cm];omega
 rw [e2,h3.xi];exact⟨v5,rfl,rfl⟩
theorem Hr(v:V1)(l:List Nat)(hl:fL l)(hn:l.length<256^4):aq auN 18 [v.v] [aR false v.v l] fun r hs=>hs=[]∧
  (l.length<18→r= .tuple #[.slice none 0 0,.bool false])∧(18≤l.length→r= .tuple #[aF 1 v.v 10 (l.length - 8) none,.bool (cy (aT l 10 (l.length - 8))==l)]):=by
 refine aq.post (SX (fun r _=>(l.length<18→r= .tuple #[.slice none 0 0,.bool false])∧(18≤l.length→r= .tuple #[aF 1 v.v 10 (l.length - 8) none,.bool (cy (aT l 10 (l.length - 8))==l)])) (l.length:Int) (aI l) v ?_) ?_;rotate_left
 ·rintro r hs h;exact⟨[],bI.sub (List.nil_sublist _),rfl,h⟩
 unfold Hq;dsimp only [bh,bq];have UI:l.length<4294967296:=hn;refine⟨by omega,fun _=>⟨fun h=>⟨fun _=>rfl,fun h'=>absurd h (by omega)⟩,fun h=>?_⟩⟩
 iterate 4 refine⟨by omega,fun _=>?_⟩
 have en:ag ((l.length:Int) - 8)=l.length - 8:=by omega
 rw [en];obtain⟨m,hm⟩: ∃m,m=aT l 10 (l.length - 8):=⟨_,rfl⟩;have hml:m.length=l.length - 8 - 10:=by rw [hm];exact c_ (by omega) (by omega)
 have hmb: ∀x∈m,x<256:=by rw [hm];exact nM hl.b
 have hw:aq auN 14 [aF 1 v.v 10 (l.length - 8) none] ([]++[aR false (aF 1 v.v 10 (l.length - 8) none) m]) fun r hs=> ∃o:V1,r=o.v∧hs=[aR true o.v (cy m)]:=yz ⟨_,bR 1 v.v 10 (l.length - 8) none⟩ m hmb (by omega)
 have D0:aq auN 14 [aF 1 v.v 10 (l.length - 8) none] [aR false v.v l] fun r hs=> ∃o:V1,r=o.v∧hs=[aR false v.v l,aR true o.v (cy m)]:=by
  refine aq.post (aq.Co (B:=[aR false v.v l]) hw ?_ ?_) ?_
  ·rintro _ hs ⟨o,_,rfl⟩ x hx;rw [auz.1 hx];rfl
  ·intro x hx;rw [auz.1 hx,hm];exact lO (bc.self rfl) (by omega) (by omega)
  ·rintro r hs ⟨yS,⟨o,rfl,rfl⟩,rfl⟩;exact⟨_,bI.perm (List.Perm.swap _ _ _),o,rfl,rfl⟩
 refine⟨_,D0,?_⟩;rintro x lP ⟨o,rfl,rfl⟩;refine⟨o,((cy m).length:Int),aI (cy m),rfl,rfl,fun h'=>absurd h' (by omega),fun _=>?_⟩;have hwb: ∀x∈cy m,x<256:=by
  intro x hx;rcases auE.1 hx with hx | hx
  ·exact wi hmb x hx
  ·exact EC _ x (List.mem_of_mem_take hx)
 rw [wj _ _ (Nat.le_refl _),wj _ _ (Nat.le_refl _),pJ,pJ,SU hwb hl.b,hm]
open Go Go.RX Go.Proofs Go.Vs
theorem Bg{s:Vs.State}{C:Nat→Int}{u1 u2 u3 u4 u5 u6 u7:Value}{H:HP}: ∀h∈ef false s C u1 u2 u3 u4 u5 u6 u7++[HP.look H],bc (ef true s C u1 u2 u3 u4 u5 u6 u7++[H]) h:=by
 intro h hh;rcases auE.1 hh with hh | hh
 ·refine bc.left ?_;simp only [List.mem_cons,List.not_mem_nil,or_false]at hh;rcases hh with rfl | rfl | rfl | rfl | rfl | rfl | rfl
  ·exact jb (.head _)
  ·exact jb (.tail _ (.head _))
  ·exact jb (.tail _ (.tail _ (.head _)))
  ·exact jb (.tail _ (.tail _ (.tail _ (.head _))))
  ·exact jb (.tail _ (.tail _ (.tail _ (.tail _ (.head _)))))
  ·exact jb (.tail _ (.tail _ (.tail _ (.tail _ (.tail _ (.head _))))))
  ·exact jb (.tail _ (.tail _ (.tail _ (.tail _ (.tail _ (.tail _ (.head _)))))))
 ·rw [auz.1 hh];exact bc.right bc.look
def mH(s:Vs.State)(most cM:Int):Int:=if kf s most cM=true then(if 4194286<(aZ.enc s).length then 3 else 0)else 2
def je(s:Vs.State)(most cM:Int):List Nat:=if mH s most cM=0 then cy (aZ.enc s)else []
theorem EH(s:Vs.State)(most cM:Int)(u1 u2 u3 u4 u5 u6 u7:V1)(C:Nat→Int)(H:HP)(hP:lg (HP.look H) s.table.aL C)(hs:si s)(hm:kf s most cM=true→most=(s.table.most:Int)∧cM=(s.call.fQ:Int) - 1∧AQ s)(hb:fL (aZ.enc s)):
  aq auN 9 [.agg (jY s most cM u1.v u2.v u3.v u4.v u5.v u6.v u7.v).toArray] (ef true s C u1.v u2.v u3.v u4.v u5.v u6.v u7.v++[H]) fun r hs=>
   ∃o:V1,r= .tuple #[o.v,.int .i64 (mH s most cM)]∧hs=ef true s C u1.v u2.v u3.v u4.v u5.v u6.v u7.v++[H]++[aR true o.v (je s most cM)]:=by
 have h0:aq auN 9 [.agg (jY s most cM u1.v u2.v u3.v u4.v u5.v u6.v u7.v).toArray] ([]++(ef false s C u1.v u2.v u3.v u4.v u5.v u6.v u7.v++[HP.look H])) fun r hs=> ∃o:V1,r= .tuple #[o.v,.int .i64 (mH s most cM)]∧hs=[aR true o.v (je s most cM)]:=by
  refine aq.post (Dm s most cM u1 u2 u3 u4 u5 u6 u7 C (HP.look H) rfl hP hs hm hb) ?_;rintro r hs ⟨h1,h2,h3⟩;cases jT:kf s most cM with
  | false=>
   obtain⟨rfl,rfl⟩:=h1 jT;have e:mH s most cM=2:=by unfold mH;rw [jT];rfl
   have e2:je s most cM=[]:=by unfold je;rw [e];rfl
   rw [e,e2];exact⟨_,bI.uy 5 1,bj,rfl,rfl⟩
  | true=>
   by_cases hl:4194286<(aZ.enc s).length
   ·obtain⟨rfl,rfl⟩:=h2 jT hl;have e:mH s most cM=3:=by unfold mH;rw [if_pos jT,if_pos hl]
    have e2:je s most cM=[]:=by unfold je;rw [e];rfl
    rw [e,e2];exact⟨_,bI.uy 5 1,bj,rfl,rfl⟩
   ·obtain⟨o,rfl,rfl⟩:=h3 jT (by omega);have e:mH s most cM=0:=by unfold mH;rw [if_pos jT,if_neg hl]
    have e2:je s most cM=cy (aZ.enc s):=by unfold je;rw [if_pos e]
    rw [e,e2];exact⟨_,bI.refl _,o,rfl,rfl⟩
 refine aq.post (aq.Co (B:=ef true s C u1.v u2.v u3.v u4.v u5.v u6.v u7.v++[H]) h0 ?_ (Bg)) ?_
 ·rintro _ hs ⟨o,_,rfl⟩ x hx;rw [auz.1 hx];rfl
 ·rintro r hs ⟨yS,⟨o,rfl,rfl⟩,rfl⟩;exact⟨_,bI.perm List.perm_append_comm,o,rfl,rfl⟩
theorem Bh(s:Vs.State)(u1 u2 u3 u4 u5 u6 u7:V1)(C:Nat→Int)(H:HP)(hP:lg (HP.look H) s.table.aL C)(hs:AQ s)(hl:(aZ.enc s).length≤140737488355328):
  aq auN 13 [.agg (jS s u1.v u2.v u3.v u4.v u5.v u6.v u7.v).toArray] (ef true s C u1.v u2.v u3.v u4.v u5.v u6.v u7.v++[H]) fun r hs=> ∃o:V1,r=o.v∧hs=ef true s C u1.v u2.v u3.v u4.v u5.v u6.v u7.v++[H]++[aR true o.v (aZ.enc s)]:=by
 have h0:aq auN 13 [.agg (jS s u1.v u2.v u3.v u4.v u5.v u6.v u7.v).toArray] ([]++(ef false s C u1.v u2.v u3.v u4.v u5.v u6.v u7.v++[HP.look H])) fun r hs=> ∃o:V1,r=o.v∧hs=[aR true o.v (aZ.enc s)]:=uD s u1 u2 u3 u4 u5 u6 u7 C (HP.look H) rfl hP hs hl
 refine aq.post (aq.Co (B:=ef true s C u1.v u2.v u3.v u4.v u5.v u6.v u7.v++[H]) h0 ?_ (Bg)) ?_
 ·rintro _ hs ⟨o,_,rfl⟩ x hx;rw [auz.1 hx];rfl
 ·rintro r hs ⟨yS,⟨o,rfl,rfl⟩,rfl⟩;exact⟨_,bI.perm List.perm_append_comm,o,rfl,rfl⟩
theorem Lr(s:Vs.State)(most cM:Int)(u1 u2 u3 u4 u5 u6 u7:V1)(C:Nat→Int)(H:HP)(hP:lg (HP.look H) s.table.aL C)(hs:si s):
  aq auN 10 [.agg (jY s most cM u1.v u2.v u3.v u4.v u5.v u6.v u7.v).toArray] (ef true s C u1.v u2.v u3.v u4.v u5.v u6.v u7.v++[H]) fun r hs=>hs=ef true s C u1.v u2.v u3.v u4.v u5.v u6.v u7.v++[H]∧r= .bool (kf s most cM):=
 mi (xp s most cM u1 u2 u3 u4 u5 u6 u7 C (HP.look H) rfl hP hs) (Bg)
def EI:Vs.State:=⟨Wd,0,⟨⟨⟨0,0⟩,Wd,Wd,[]⟩,0,[]⟩,⟨⟨0,0⟩,List.replicate 8 0,[],0,List.replicate 16 0,false,0,⟨0,0⟩,Wd,Wd,Wd,[],1,[],0,0,0,0,0,0⟩,[],[]⟩
set_option maxRecDepth 100000 in
theorem Hs:TR=jS EI bj.v bj.v bj.v bj.v bj.v bj.v bj.v:=by rfl
def jD(l:List Nat):Int:=if gK l=none then(if 4194304<l.length then 3 else 9)else 0
def aD(l:List Nat):Vs.State:=(gK l).getD EI
theorem abl{s:Vs.State}{C:Nat→Int}{u1 u2 u3 u4 u5 u6 u7:Value}: ∀h∈ef true s C u1 u2 u3 u4 u5 u6 u7,h.wr=true:=by
 intro h hh;simp only [List.mem_cons,List.not_mem_nil,or_false]at hh;rcases hh with rfl | rfl | rfl | rfl | rfl | rfl | rfl<;>rfl
theorem uE(v:V1)(l:List Nat)(hl:fL l)(B:List HP)(hB:bc B (aR false v.v l)):aq auN 17 [v.v] B fun r hs=>
  ∃(u1 u2 u3 u4 u5 u6 u7:V1) (C:Nat→Int) (H:HP),r= .tuple #[.agg (jS (aD l) u1.v u2.v u3.v u4.v u5.v u6.v u7.v).toArray,.int .i64 (jD l)]∧hs=B++(ef true (aD l) C u1.v u2.v u3.v u4.v u5.v u6.v u7.v++[H])∧H.wr=true∧lg (HP.look H) (aD l).table.aL C:=by
 have h0:aq auN 17 [v.v] ([]++[aR false v.v l]) fun r hs=> ∃(u1 u2 u3 u4 u5 u6 u7:V1) (C:Nat→Int) (H:HP),r= .tuple #[.agg (jS (aD l) u1.v u2.v u3.v u4.v u5.v u6.v u7.v).toArray,.int .i64 (jD l)]∧hs=ef true (aD l) C u1.v u2.v u3.v u4.v u5.v u6.v u7.v++[H]∧H.wr=true∧lg (HP.look H) (aD l).table.aL C:=by
  refine aq.post (JR v l hl) ?_;rintro r hs ⟨h1,h2⟩;cases h:gK l with
  | none=>
   obtain⟨rfl,rfl⟩:=h2 h;have e:aD l=EI:=by unfold aD;rw [h];rfl
   have e2:jD l=if 4194304<l.length then 3 else 9:=by unfold jD;rw [if_pos h]
   rw [e,e2,Hs];refine⟨_,?_,bj,bj,bj,bj,bj,bj,bj,fun _=>0,HP.none,rfl,rfl,rfl,fun i hi=>absurd hi (Nat.not_lt_zero i)⟩;exact bI.wk (bI.wk (b:=[_]) (bI.uy 93 33) (bI.wk (b:=[_]) (bI.uy 68 3) (bI.wk (b:=[_]) (bI.uy 36 16) (bI.wk (b:=[_]) (bI.uy 5 1) (bI.wk (b:=[_]) (bI.uy 26 2) (bI.wk (b:=[_]) (bI.uy 5 1) (bI.uy 98 19))))))) bI.none
  | some S=>
   obtain⟨u1,u2,u3,u4,u5,u6,u7,C,H,rfl,rfl,h3,h4⟩:=h1 S h;have e:aD l=S:=by unfold aD;rw [h];rfl
   have e2:jD l=0:=by unfold jD;rw [if_neg (by rw [h];simp)]
   rw [e,e2];exact⟨_,bI.perm (List.perm_append_comm (l₁:=[H])),u1,u2,u3,u4,u5,u6,u7,C,H,rfl,rfl,h3,h4⟩
 refine aq.post (aq.Co (B:=B) h0 ?_ ?_) ?_
 ·rintro _ hs ⟨u1,u2,u3,u4,u5,u6,u7,C,H,_,rfl,h3,_⟩ x hx;rcases auE.1 hx with hx | hx
  ·exact abl x hx
  ·rw [auz.1 hx];exact h3
 ·intro x hx;rw [auz.1 hx];exact hB
 ·rintro r hs ⟨yS,⟨u1,u2,u3,u4,u5,u6,u7,C,H,rfl,rfl,h3,h4⟩,rfl⟩;exact⟨_,bI.perm List.perm_append_comm,u1,u2,u3,u4,u5,u6,u7,C,H,rfl,rfl,h3,h4⟩
open Go Go.RX Go.Proofs Go.Vs
set_option maxRecDepth 100000 in
theorem Ox{o:List cV}(h:o=[]∨o=iI):kf (plain o) 31 (-1)=true:=by
 rcases h with rfl | rfl<;>decide
theorem Ht{o:List cV}(h:o=[]∨o=iI):aZ.ok (plain o):=by
 have ho:o.length<256^4∧∀a∈o,dN.ok a:=by
  rcases h with rfl | rfl
  ·exact⟨by decide,fun a ha=>by cases ha⟩
  ·refine⟨by decide,fun a ha=>?_⟩;rw [iI,auz]at ha;subst ha;exact⟨(by decide:3<256^4),rfl⟩
 have n0: ∀{α:Type} {c:rb α},(list c).ok []:=fun {α c}=>⟨by show 0<256^4;decide,fun a ha=>by cases ha⟩
 exact⟨rfl,(by decide:0<256^8),⟨⟨⟨(by decide:1<256^1),(by decide:2<256^1)⟩,rfl,rfl,ho⟩,(by decide:31<256^4),n0⟩,⟨⟨(by decide:1<256^1),(by decide:2<256^1)⟩,rfl,n0,(by decide:0<256^1),rfl,trivial,(by decide:0<256^1),⟨(by decide:0<256^1),(by decide:0<256^1)⟩,rfl,rfl,rfl,(by decide:0<256^4),(by decide:0<256^1),n0,(by decide:0<256^8),(by decide:0<256^8),(by decide:0<256^8),(by decide:0<256^8),(by decide:0<256^8),(by decide:0<256^4)⟩,(by decide:0<256^4),n0⟩
theorem Bi{s:Vs.State}(iz:aZ.ok s)(hlen:(aZ.enc s).length≤4194286)(jT:kf s (s.table.most:Int) ((s.call.fQ:Int) - 1)=true):gK (cy (aZ.enc s))=some s:=by
 obtain⟨m,hm⟩: ∃m,m=aZ.enc s:=⟨_,rfl⟩;have hf:=aZ.fwd s [] iz;rw [List.append_nil]at hf;rw [←hm]at hlen hf ⊢;obtain⟨h1,h2,h3⟩:=Hn (l:=cy m) (m:=m) rfl (Nat.lt_of_le_of_lt hlen (by decide));have hi:o3 (cy m)=(s,some []):=by
  unfold o3;rw [h3];exact hf
 have hl:(cy m).length≤4194304:=by
  rw [cy,aum,cA,List.length_take,cm];omega
 unfold gK;rw [hi,if_pos ⟨hl,h1,h2,rfl,jT⟩]
theorem SZ{l:List Nat}(h:Bd l):gK (aT l 0 (l.length - 1))=none:=by
 unfold gK;rw [if_neg];rintro ⟨_,⟨h18,_⟩,⟨hn,_⟩,_⟩;have hl:(aT l 0 (l.length - 1)).length=l.length - 1:=c_ (Nat.zero_le _) (by omega);rw [hl]at h18 hn;have e:aT (aT l 0 (l.length - 1)) 6 10=aT l 6 10:=by
  simp only [aT,List.drop_zero,List.drop_take,List.take_take];congr 1;omega
 rw [e,h.1]at hn;omega
end Go.RX.Vb
