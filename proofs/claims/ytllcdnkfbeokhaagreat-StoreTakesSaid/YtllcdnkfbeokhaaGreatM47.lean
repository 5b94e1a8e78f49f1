/- Sums and MACs. -/
import Derived.Test.YtllcdnkfbeokhaaGreatFnL
open Go.IntKind renaming wrap → ae
open Go.Proofs.Tryz renaming prog → aqQ
open Int renaming toNat → ag, toNat_natCast → aqD
open List renaming getD_cons_zero → ah, length_append → aql, mem_append → aqC, mem_singleton → aqx
open Nat renaming lt_of_lt_of_le → aqz
namespace Go.RX.Fn
open Go Go.RX Go.Proofs Go.RX.Sh Go.RX.Fg Go.RX.Fj Go.RX.Fk
open Go.RX.Fm (eight CH IW)
theorem zE{m:Nat}(h:m<2^64):ae .u64 (ar .quo .u64 (m:Int) 256)=((m/256:Nat):Int):=by
 have e:ar .quo .u64 (m:Int) 256=((m/256:Nat):Int):=rfl;rw [e,wrap64 (Nat.lt_of_le_of_lt (Nat.div_le_self _ _) h)]
theorem w9(m:Nat):ae .u8 (ar .rem .u64 (m:Int) 256)=((m%256:Nat):Int):=by
 have h:ar .rem .u64 (m:Int) 256=((m%256:Nat):Int):=rfl;rw [h,wrap_u8];congr 1;omega
theorem S9{m:Nat}(hm:m<2^64)(j:Nat)(hj:j<8):
  (aw (aw (aw (aw (aw (aw (aw (aw (fun _=>0) 7 (ae .u8 (ar .rem .u64 (m:Int) 256))) 6 (ae .u8 (ar .rem .u64 (ae .u64 (ar .quo .u64 (m:Int) 256)) 256))) 5 (ae .u8 (ar .rem .u64 (ae .u64 (ar .quo .u64 (ae .u64 (ar .quo .u64 (m:Int) 256)) 256)) 256))) 4 (ae .u8 (ar .rem .u64 (ae .u64 (ar .quo .u64 (ae .u64 (ar .quo .u64 (ae .u64 (ar .quo .u64 (m:Int) 256)) 256)) 256)) 256))) 3 (ae .u8 (ar .rem .u64 (ae .u64 (ar .quo .u64 (ae .u64 (ar .quo .u64 (ae .u64 (ar .quo .u64 (ae .u64 (ar .quo .u64 (m:Int) 256)) 256)) 256)) 256)) 256))) 2 (ae .u8 (ar .rem .u64 (ae .u64 (ar .quo .u64 (ae .u64 (ar .quo .u64 (ae .u64 (ar .quo .u64 (ae .u64 (ar .quo .u64 (ae .u64 (ar .quo .u64 (m:Int) 256)) 256)) 256)) 256)) 256)) 256))) 1 (ae .u8 (ar .rem .u64 (ae .u64 (ar .quo .u64 (ae .u64 (ar .quo .u64 (ae .u64 (ar .quo .u64 (ae .u64 (ar .quo .u64 (ae .u64 (ar .quo .u64 (ae .u64 (ar .quo .u64 (m:Int) 256)) 256)) 256)) 256)) 256)) 256)) 256))) 0 (ae .u8 (ar .rem .u64 (ae .u64 (ar .quo .u64 (ae .u64 (ar .quo .u64 (ae .u64 (ar .quo .u64 (ae .u64 (ar .quo .u64 (ae .u64 (ar .quo .u64 (ae .u64 (ar .quo .u64 (ae .u64 (ar .quo .u64 (m:Int) 256)) 256)) 256)) 256)) 256)) 256)) 256)) 256))) j=(K8 m j:Nat):=by
 have l: ∀{k:Nat},k<2^64→k/256<2^64:=fun h=>Nat.lt_of_le_of_lt (Nat.div_le_self _ _) h
 rw [zE hm,zE (l hm),zE (l (l hm)),zE (l (l (l hm))),zE (l (l (l (l hm)))),zE (l (l (l (l (l hm))))),zE (l (l (l (l (l (l hm))))))];rw [w9,w9,w9,w9,w9,w9,w9,w9];unfold K8;have d: ∀k:Nat,m/256^k/256=m/256^(k+1):=fun k=>by rw [Nat.div_div_eq_div_mul,←Nat.pow_succ]
 have e1:m/256=m/256^1:=by rw [Nat.pow_one]
 rw [e1,d,d,d,d,d,d]
 match j,hj with
 | 0,_=>rfl
 | 1,_=>rfl
 | 2,_=>rfl
 | 3,_=>rfl
 | 4,_=>rfl
 | 5,_=>rfl
 | 6,_=>rfl
 | 7,_=>simp [aw]
 | j+8,h=>exact absurd h (by omega)
theorem CO(v0:V1)(T:Nat→Nat)(n:Nat)(hl:n+300≤140737488355328):aq aqQ 62 [v0.v,.int .i64 32] [dg false v0 n T] fun r hs=> ∃o:V1,r=o.v∧hs=[dg true o (dZ n) (ky n T)]:=by
 refine aq.post (p:=fun r hs=> ∃o:V1,r=o.v∧hs[0]? =some (dg true o (dZ n) (ky n T))) ?_ ?_;rotate_left
 ·rintro r hs ⟨o,rfl,h⟩;exact⟨_,bJ.abp 0 h,o,rfl,rfl⟩
 refine F9 _ (n:Int) (fun j=>(T j:Nat)) v0 ?_;unfold yl;have hL:dZ n=64*((n+8)/64+1):=rfl;intro v1
 iterate 3 refine⟨by omega,fun _=>?_⟩
 intro v2 b0;refine⟨by omega,fun _=>?_⟩;intro v3;refine⟨fun e=> ∃k:Nat,n+1≤k∧k+8≤dZ n∧e.i=[(k:Int)]∧∀j,j<k→(e.a.getD 0 fun _=>0) j=(ky n T j:Nat),fun e=>((dZ n:Int) - e.i.getD 0 0).toNat,⟨v3,_,_,rfl,rfl,rfl,fun _ _=>rfl,n+1,by omega,by omega,by rw [Int.natCast_add];rfl,fun j hj=>?_⟩,?_⟩
 ·simp only [ah];rw [aqD];unfold aw ky;split
  ·rename_i c;rw [if_neg (by omega)];rfl
  ·rw [if_pos (by omega)]
 rintro v4 x1 A1 ⟨k,hk1,hk2,hx,hA⟩;simp only [List.cons.injEq,and_true]at hx;subst hx;simp only [ah]at hA;have hr:ar .rem .i64 (k:Int) 64=((k%64:Nat):Int):=rfl;have tk:ag (k:Int)=k:=rfl;rw [hr,tk];refine⟨by omega,fun _=>⟨fun fg=>?_,fun heq=>?_⟩⟩
 ·intro b1;refine⟨by omega,fun _=>?_⟩;intro v5;refine⟨v5,_,_,rfl,rfl,rfl,fun _ _=>rfl,⟨k+1,by omega,by omega,by rw [Int.natCast_add];rfl,fun j hj=>?_⟩,?_⟩
  ·simp only [ah];unfold aw;split
   ·unfold ky;rw [if_neg (by omega),if_neg (by omega),if_pos (by omega)];rfl
   ·exact hA j (by omega)
  ·simp only [ah];omega
 ·have CP:k=dZ n - 8:=by omega
  have hm:ae .u64 (8*(ae .u64 (n:Int)))=((n*8:Nat):Int):=by
   rw [wrap64 (by omega),show 8*(n:Int)=((n*8:Nat):Int) by omega,wrap64 (by omega)]
  rw [hm];intro v5;refine⟨by omega,fun _=>⟨by omega,fun _=>?_⟩⟩;intro v6;refine⟨v6,rfl,congrArg some ?_⟩;have t8:ag ((k:Int)+8)=dZ n:=by omega
  dsimp only [bo,bi,bn];rw [t8];unfold dg;refine congrArg (aB true 5 1 v6.v (dZ n)) (mZ fun j hj=>?_);unfold bQ;by_cases c:j<k
  ·rw [if_neg (by omega)];exact hA j c
  ·rw [if_pos (by omega),S9 (by omega) _ (by omega)];unfold ky;rw [if_neg (by omega),if_neg (by omega),if_neg (by omega),CP]
theorem Xs(n:Nat):(256:Int)*(n:Int)=((n*256:Nat):Int):=by omega
theorem Xt{a b c d:Nat}(ha:a<256)(hb:b<256)(hc:c<256)(hd:d<256):
  ae .u64 ((ae .u64 (256*(ae .u64 ((ae .u64 (256*(ae .u64 ((ae .u64 (256*(ae .u64 (ae .u64 (a:Int)))))+(ae .u64 (b:Int))))))+(ae .u64 (c:Int))))))+(ae .u64 (d:Int)))=((((a*256+b)*256+c)*256+d:Nat):Int):=by
 rw [wrap64 (n:=a) (by omega),wrap64 (n:=a) (by omega),Xs a,wrap64 (n:=a*256) (by omega),wrap64 (n:=b) (by omega),ni (by omega),Xs,wrap64 (n:=(a*256+b)*256) (by omega),wrap64 (n:=c) (by omega),ni (by omega),Xs,wrap64 (n:=((a*256+b)*256+c)*256) (by omega),wrap64 (n:=d) (by omega),ni (by omega)]
theorem abx{a b c d:Nat}(ha:a<2^32)(hb:b<2^32)(hc:c<2^32)(hd:d<2^32):
  ar .rem .u64 (ae .u64 ((ae .u64 ((ae .u64 ((a:Int)+(b:Int)))+(c:Int)))+(d:Int))) 4294967296=(((a+b+c+d)%2^32:Nat):Int):=by
 rw [ni (by omega),ni (by omega),ni (by omega),AX]
theorem w_{a b:Nat}(ha:a<2^32)(hb:b<2^32):ar .rem .u64 (ae .u64 ((a:Int)+(b:Int))) 4294967296=(((a+b)%2^32:Nat):Int):=by
 rw [ni (by omega),AX]
theorem vT(a:Nat):ar .rem .u64 (a:Int) 256=((a%256:Nat):Int):=BN a 256
theorem I1{w n:Nat}(hw:w<2^32):ae .u8 (ar .rem .u64 (ae .u64 (ar .quo .u64 (w:Int) ((2^n:Nat):Int))) 256)=((w/2^n%256:Nat):Int):=by
 rw [H9 hw,vT,wrap_u8,Nat.mod_eq_of_lt (aqz (Nat.mod_lt _ (by decide)) (by decide))]
theorem o24{w:Nat}(hw:w<2^32):ae .u8 (ar .rem .u64 (ae .u64 (ar .quo .u64 (w:Int) 16777216)) 256)=((w/2^24%256:Nat):Int):=I1 (n:=24) hw
theorem o16{w:Nat}(hw:w<2^32):ae .u8 (ar .rem .u64 (ae .u64 (ar .quo .u64 (w:Int) 65536)) 256)=((w/2^16%256:Nat):Int):=I1 (n:=16) hw
theorem o8{w:Nat}(hw:w<2^32):ae .u8 (ar .rem .u64 (ae .u64 (ar .quo .u64 (w:Int) 256)) 256)=((w/2^8%256:Nat):Int):=I1 (n:=8) hw
theorem o0{w:Nat}(hw:w<2^32):ae .u8 (ar .rem .u64 (ae .u64 (ar .quo .u64 (w:Int) 1)) 256)=((w/2^0%256:Nat):Int):=I1 (n:=0) hw
theorem abq{t:Nat}(ht:t≤64):ae .i64 (ar .quo .i64 ((t:Int)*32) 8)=((4*t:Nat):Int):=by
 have h1:ar .quo .i64 ((t:Int)*32) 8=((t*32/8:Nat):Int):=by
  show Int.tdiv ((t:Int)*32) 8=_;rw [show(t:Int)*32=((t*32:Nat):Int) by omega];rfl
 rw [h1,show t*32/8=4*t by omega];simp [ae,IntKind.signed,IntKind.bits];omega
set_option maxHeartbeats 1000000 in
theorem HB(v0:V1)(T:Nat→Nat)(hT: ∀j,T j<256)(n:Nat)(hl:n+300≤140737488355328):aq aqQ 33 [v0.v,.int .i64 32] [dg false v0 n T] fun r hs=> ∃o:V1,r=o.v∧hs=[dg true o 32 (vP n T)]:=by
 refine QR _ (n:Int) (fun j=>(T j:Nat)) v0 ?_;unfold H7;intro b0;refine⟨_,BO,?_⟩;rintro r hs ⟨v1,A1,rfl,rfl,hC⟩;refine⟨v1,A1,rfl,rfl,?_⟩;refine⟨_,aY 32 rfl rfl (by decide),?_⟩;rintro r hs ⟨rfl,rfl⟩;refine⟨rfl,rfl,?_⟩;refine⟨_,E1 (B:=[dg false v0 n T]) (CO v0 T n hl) (abr (bc.get 0 rfl)),?_⟩;rintro r hs ⟨v2,rfl,rfl⟩;have hM:=IX hT n;have hS:vP n T=Sh.bytesOf (w6 (ky n T) ((n+8)/64+1)):=rfl;have hL:dZ n=64*((n+8)/64+1):=rfl;obtain⟨A2,WW⟩: ∃A2:Nat→Int,A2=fun j=>((ky n T j:Nat):Int):=⟨_,rfl⟩
 refine⟨v2,(dZ n:Int),A2,rfl,by rw [WW];rfl,?_⟩;have hP: ∀j,j<dZ n→A2 j=((ky n T j:Nat):Int):=fun j _=>by rw [WW]
 rw [hS];clear WW hS;generalize ky n T=M at*;refine⟨fun e=> ∃q:Nat,64*q≤dZ n∧e.i=eight (w6 M q) (64*q),fun e=>((dZ n:Int) - e.i.getD 8 0).toNat,⟨_,_,_,_,_,_,_,_,_,rfl,rfl,rfl,rfl,rfl,rfl,rfl,rfl,rfl,0,by omega,?_⟩,?_⟩
 ·show _=eight H0 0;decide+kernel
 rintro x0 x1 x2 x3 x4 x5 x6 x7 x8 ⟨q,hq,hx⟩;simp only [eight,List.cons.injEq,and_true]at hx;obtain⟨rfl,rfl,rfl,rfl,rfl,rfl,rfl,rfl,rfl⟩:=hx;have hH:=Hu M q;refine⟨by omega,fun _=>⟨fun cq=>?_,fun lN=>?_⟩⟩
 ·have hB: ∀j,j<64→(fun i=>M (64*q+i)) j<256:=fun j _=>hM _
  obtain⟨B,hBd⟩: ∃B:Nat→Nat,B=fun i=>M (64*q+i):=⟨_,rfl⟩
  rw [←hBd]at hB;have hMB: ∀j,j<64→A2 (64*q+j)=((B j:Nat):Int):=fun j hj=>by rw [hP _ (by omega),hBd]
  refine⟨fun e=> ∃t:Nat,t≤16∧e.i=[(t:Int)]∧∀j,j<t→e.a.getD 0 (fun _=>0) j=((word B j:Nat):Int),fun e=>(16 - e.i.getD 0 0).toNat,⟨_,0,fun _=>0,rfl,rfl,rfl,rfl,fun _ _=>rfl,0,by omega,rfl,fun j hj=>absurd hj (by omega)⟩,?_⟩;rintro v4 x9 A3 ⟨t,ht,hx,h3⟩;simp only [List.cons.injEq,and_true]at hx;subst hx;simp only [ah]at h3;rw [abq (by omega)];refine⟨fun cq=>?_,fun lN=>?_⟩
  ·rw [show ag (((64*q:Nat):Int)+((4*t:Nat):Int))=64*q+4*t by omega,show ag (((64*q:Nat):Int)+((4*t:Nat):Int)+1)=64*q+(4*t+1) by omega,show ag (((64*q:Nat):Int)+((4*t:Nat):Int)+2)=64*q+(4*t+2) by omega,show ag (((64*q:Nat):Int)+((4*t:Nat):Int)+3)=64*q+(4*t+3) by omega];rw [hMB _ (by omega),hMB _ (by omega),hMB _ (by omega),hMB _ (by omega),Xt (hB _ (by omega)) (hB _ (by omega)) (hB _ (by omega)) (hB _ (by omega))];refine⟨by omega,fun _=>?_⟩;refine⟨by omega,fun _=>?_⟩;refine⟨by omega,fun _=>?_⟩;refine⟨by omega,fun _=>?_⟩;refine⟨by omega,fun _=>?_⟩;refine⟨by omega,fun _=>?_⟩;refine⟨by omega,fun _=>?_⟩;refine⟨by omega,fun _=>?_⟩;refine⟨by omega,fun _=>?_⟩;refine⟨by omega,fun _=>?_⟩;refine⟨by omega,fun _=>?_⟩;refine⟨by omega,fun _=>?_⟩;refine⟨by omega,fun _=>?_⟩;refine⟨by omega,fun _=>?_⟩;refine⟨by omega,fun _=>?_⟩;refine⟨by omega,fun _=>?_⟩;refine⟨by omega,fun _=>?_⟩;refine⟨by omega,fun _=>?_⟩;intro b1;refine⟨by omega,fun _=>?_⟩;refine⟨by omega,fun _=>?_⟩;intro v5;refine⟨by omega,fun _=>?_⟩;refine⟨by omega,fun _=>?_⟩;refine⟨_,(t:Int)+1,_,rfl,rfl,rfl,rfl,fun _ _=>rfl,⟨t+1,by omega,rfl,fun j hj=>?_⟩,?_⟩
   ·simp only [ah];rw [aqD];by_cases Hr:j=t
    ·subst Hr;unfold aw;rw [if_pos rfl];rfl
    ·rw [IW Hr];exact h3 j (by omega)
   ·simp only [ah];omega
  have ahO:t=16:=by omega
  subst ahO;refine⟨fun e=> ∃n:Nat,n≤48∧e.i=[((n+16:Nat):Int)]∧∀j,j<n+16→e.a.getD 0 (fun _=>0) j=((gj B n j:Nat):Int),fun e=>(64 - e.i.getD 0 0).toNat,⟨_,_,A3,rfl,rfl,rfl,rfl,fun _ _=>rfl,0,by omega,rfl,fun j hj=>?_⟩,?_⟩
  ·simp only [ah];rw [h3 j (by omega)];unfold gj;rw [if_pos (by omega)]
  rintro v5 bE A4 ⟨n,hn,hx,h4⟩;simp only [List.cons.injEq,and_true]at hx;subst hx;simp only [ah]at h4;have hl:=Hp hB n;refine⟨fun cq=>?_,fun lN=>?_⟩
  ·rw [show ag (((n+16:Nat):Int) - 2)=n+14 by omega,show ag (((n+16:Nat):Int) - 7)=n+9 by omega,show ag (((n+16:Nat):Int) - 15)=n+1 by omega,show ag (((n+16:Nat):Int) - 16)=n by omega];rw [h4 (n+14) (by omega),h4 (n+9) (by omega),h4 (n+1) (by omega),h4 n (by omega)];refine⟨by omega,fun _=>?_⟩;refine⟨by omega,fun _=>?_⟩;refine⟨by omega,fun _=>?_⟩;refine⟨by omega,fun _=>?_⟩;refine⟨by omega,fun _=>?_⟩;refine⟨by omega,fun _=>?_⟩;refine⟨by omega,fun _=>?_⟩;refine⟨by omega,fun _=>?_⟩;refine⟨by omega,fun _=>?_⟩;refine⟨by omega,fun _=>?_⟩;refine⟨by omega,fun _=>?_⟩;refine⟨by omega,fun _=>?_⟩;refine⟨by omega,fun _=>?_⟩;refine⟨by omega,fun _=>?_⟩;refine⟨by omega,fun _=>?_⟩;refine⟨by omega,fun _=>?_⟩;refine⟨_,Dt _ (hl _),?_⟩;rintro r hs ⟨rfl,rfl⟩;refine⟨_,rfl,rfl,?_⟩;refine⟨_,Ds _ (hl _),?_⟩;rintro r hs ⟨rfl,rfl⟩;refine⟨_,rfl,rfl,?_⟩;refine⟨_,aY 32 rfl rfl (by decide),?_⟩;rintro r hs ⟨rfl,rfl⟩;refine⟨rfl,rfl,?_⟩;rw [abx (abi (hl _)) (hl _) (abh (hl _)) (hl _)];intro b1;refine⟨by omega,fun _=>?_⟩;refine⟨by omega,fun _=>?_⟩;intro v6;refine⟨by omega,fun _=>?_⟩;refine⟨by omega,fun _=>?_⟩;refine⟨_,((n+16:Nat):Int)+1,_,rfl,rfl,rfl,rfl,fun _ _=>rfl,⟨n+1,by omega,?_,fun j hj=>?_⟩,?_⟩
   ·exact congrArg (fun x=>[x]) (show((n+16:Nat):Int)+1=((n+1+16:Nat):Int) by omega)
   ·simp only [ah];rw [aqD,gj];unfold aw;dsimp only;by_cases Hr:j=n+16
    ·rw [if_pos Hr,if_pos Hr]
    ·rw [if_neg Hr,if_neg Hr];exact h4 j (by omega)
   ·simp only [ah];omega
  have ahP:n=48:=by omega
  subst ahP;intro v6 v7;have hv:=Hq (K:=K0) (W:=gj B 48) hH;refine⟨fun e=> ∃a:Nat,a≤64∧e.i=[(a:Int)]∧∀j,j<8→e.a.getD 0 (fun _=>0) j=((SX K0 (gj B 48) (w6 M q) a j:Nat):Int),fun e=>(64 - e.i.getD 0 0).toNat,⟨_,0,_,rfl,rfl,rfl,fun _ _=>rfl,0,by omega,rfl,fun j hj=>?_⟩,?_⟩
  ·simp only [ah];unfold aw
   match j,hj with
   | 0,_=>rfl
   | 1,_=>rfl
   | 2,_=>rfl
   | 3,_=>rfl
   | 4,_=>rfl
   | 5,_=>rfl
   | 6,_=>rfl
   | 7,_=>rfl
  rintro v8 bM A5 ⟨a,ha,hx,h5⟩;simp only [List.cons.injEq,and_true]at hx;subst hx;simp only [ah]at h5;refine⟨fun cq=>?_,fun lN=>?_⟩
  ·rw [aqD,hC a (by omega),h4 a (by omega)];refine⟨by omega,fun _=>?_⟩;refine⟨by omega,fun _=>?_⟩;refine⟨by omega,fun _=>?_⟩;refine⟨_,Jm v8 A5 (SX K0 (gj B 48) (w6 M q) a) (K0 a) (gj B 48 a) h5 (hv a) (abm a (by omega)) (hl a),?_⟩;rintro r hs ⟨v9,A6,rfl,rfl,h6⟩;refine⟨v9,A6,rfl,rfl,?_⟩;refine⟨by omega,fun _=>?_⟩;refine⟨by omega,fun _=>?_⟩;refine⟨_,(a:Int)+1,A6,rfl,rfl,rfl,fun _ _=>rfl,⟨a+1,by omega,rfl,h6⟩,?_⟩;simp only [ah];omega
  have Ht:a=64:=by omega
  subst Ht;refine⟨_,aY 32 rfl rfl (by decide),?_⟩;rintro r hs ⟨rfl,rfl⟩;refine⟨rfl,rfl,?_⟩;refine⟨_,aY 32 rfl rfl (by decide),?_⟩;rintro r hs ⟨rfl,rfl⟩;refine⟨rfl,rfl,?_⟩;refine⟨_,aY 32 rfl rfl (by decide),?_⟩;rintro r hs ⟨rfl,rfl⟩;refine⟨rfl,rfl,?_⟩;refine⟨_,aY 32 rfl rfl (by decide),?_⟩;rintro r hs ⟨rfl,rfl⟩;refine⟨rfl,rfl,?_⟩;refine⟨_,aY 32 rfl rfl (by decide),?_⟩;rintro r hs ⟨rfl,rfl⟩;refine⟨rfl,rfl,?_⟩;refine⟨_,aY 32 rfl rfl (by decide),?_⟩;rintro r hs ⟨rfl,rfl⟩;refine⟨rfl,rfl,?_⟩;refine⟨_,aY 32 rfl rfl (by decide),?_⟩;rintro r hs ⟨rfl,rfl⟩;refine⟨rfl,rfl,?_⟩;refine⟨_,aY 32 rfl rfl (by decide),?_⟩;rintro r hs ⟨rfl,rfl⟩;refine⟨rfl,rfl,?_⟩;have CQ:=hv 64;obtain⟨R,hR⟩: ∃R:Nat→Nat,R=SX K0 (gj B 48) (w6 M q) 64:=⟨_,rfl⟩;have hc:=CH hR;rw [←hR]at h5 CQ;have hs:w6 M (q+1)=comp K0 (w6 M q) B:=by rw [hBd];rfl
  rw [h5 0 (by omega),h5 1 (by omega),h5 2 (by omega),h5 3 (by omega),h5 4 (by omega),h5 5 (by omega),h5 6 (by omega),h5 7 (by omega)];rw [w_ (hH 0 (by omega)) (CQ 0 (by omega)),w_ (hH 1 (by omega)) (CQ 1 (by omega)),w_ (hH 2 (by omega)) (CQ 2 (by omega)),w_ (hH 3 (by omega)) (CQ 3 (by omega)),w_ (hH 4 (by omega)) (CQ 4 (by omega)),w_ (hH 5 (by omega)) (CQ 5 (by omega)),w_ (hH 6 (by omega)) (CQ 6 (by omega)),w_ (hH 7 (by omega)) (CQ 7 (by omega))];rw [←hc 0,←hc 1,←hc 2,←hc 3,←hc 4,←hc 5,←hc 6,←hc 7,←hs];refine⟨by omega,fun _=>?_⟩;refine⟨by omega,fun _=>?_⟩;refine⟨_,_,_,_,_,_,_,_,((64*q:Nat):Int)+64,rfl,rfl,rfl,rfl,rfl,rfl,rfl,rfl,rfl,⟨q+1,by omega,?_⟩,?_⟩
  ·rw [show((64*q:Nat):Int)+64=((64*(q+1):Nat):Int) by omega];rfl
  ·simp only [ah,List.getD_cons_succ];omega
 have hqe:q=(n+8)/64+1:=by omega
 rw [←hqe];generalize w6 M q=C at*;refine⟨fun e=> ∃a:Nat,a≤8∧e.i=[(a:Int),((4*a:Nat):Int)]∧(∀j,j<8→e.a.getD 1 (fun _=>0) j=((C j:Nat):Int))∧∀j,j<4*a→e.a.getD 0 (fun _=>0) j=((Sh.bytesOf C j:Nat):Int),fun e=>(8 - e.i.getD 0 0).toNat,
  ⟨_,0,0,fun _=>0,_,rfl,rfl,fun _ _=>rfl,rfl,rfl,fun _ _=>rfl,0,by omega,rfl,fun j hj=>?_,fun j hj=>absurd hj (by omega)⟩,?_⟩
 ·simp only [ah,List.getD_cons_succ];unfold aw
  match j,hj with
  | 0,_=>rfl
  | 1,_=>rfl
  | 2,_=>rfl
  | 3,_=>rfl
  | 4,_=>rfl
  | 5,_=>rfl
  | 6,_=>rfl
  | 7,_=>rfl
 rintro v4 x9 bE A3 A4 ⟨a,ha,hx,h4,h3⟩;simp only [List.cons.injEq,and_true]at hx;obtain⟨rfl,rfl⟩:=hx;simp only [ah,List.getD_cons_succ]at h4 h3;refine⟨fun cq=>?_,fun lN=>?_⟩
 ·rw [show ag (a:Int)=a from aqD a,h4 a (by omega),o24 (hH a (by omega)),o16 (hH a (by omega)),o8 (hH a (by omega)),o0 (hH a (by omega))];refine⟨by omega,fun _=>?_⟩;refine⟨_,aY 24 rfl rfl (by decide),?_⟩;rintro r hs ⟨rfl,rfl⟩;refine⟨rfl,rfl,?_⟩;intro b1;refine⟨by omega,fun _=>?_⟩;refine⟨by omega,fun _=>?_⟩;intro v5;refine⟨_,aY 16 rfl rfl (by decide),?_⟩;rintro r hs ⟨rfl,rfl⟩;refine⟨rfl,rfl,?_⟩;intro b2;refine⟨by omega,fun _=>?_⟩;refine⟨by omega,fun _=>?_⟩;intro v6;refine⟨_,aY 8 rfl rfl (by decide),?_⟩;rintro r hs ⟨rfl,rfl⟩;refine⟨rfl,rfl,?_⟩;intro b3;refine⟨by omega,fun _=>?_⟩;refine⟨by omega,fun _=>?_⟩;intro v7;refine⟨_,aY 0 rfl rfl (by decide),?_⟩;rintro r hs ⟨rfl,rfl⟩;refine⟨rfl,rfl,?_⟩;intro b4;refine⟨by omega,fun _=>?_⟩;refine⟨by omega,fun _=>?_⟩;intro v8;refine⟨by omega,fun _=>?_⟩;refine⟨by omega,fun _=>?_⟩;refine⟨_,(a:Int)+1,_,_,A4,rfl,rfl,fun _ _=>rfl,rfl,rfl,fun _ _=>rfl,⟨a+1,by omega,?_,?_,fun j hj=>?_⟩,?_⟩
  ·rw [show((4*a:Nat):Int)+1+1+1+1=((4*(a+1):Nat):Int) by omega];rfl
  ·simp only [ah,List.getD_cons_succ];exact h4
  ·simp only [ah];rw [show ag ((4*a:Nat):Int)=4*a by omega,show ag (((4*a:Nat):Int)+1)=4*a+1 by omega,show ag (((4*a:Nat):Int)+1+1)=4*a+2 by omega,show ag (((4*a:Nat):Int)+1+1+1)=4*a+3 by omega];unfold aw Sh.bytesOf;by_cases j3:j=4*a+3
   ·rw [if_pos j3,show j/4=a by omega,show 24 - 8*(j%4)=0 by omega]
   rw [if_neg j3];by_cases j2:j=4*a+2
   ·rw [if_pos j2,show j/4=a by omega,show 24 - 8*(j%4)=8 by omega]
   rw [if_neg j2];by_cases j1:j=4*a+1
   ·rw [if_pos j1,show j/4=a by omega,show 24 - 8*(j%4)=16 by omega]
   rw [if_neg j1];by_cases j0:j=4*a
   ·rw [if_pos j0,show j/4=a by omega,show 24 - 8*(j%4)=24 by omega]
   rw [if_neg j0];exact h3 j (by omega)
  ·simp only [ah];omega
 have ha8:a=8:=by omega
 subst ha8;refine⟨v4,rfl,?_⟩;show [aB true 5 1 v4.v 32 (aK 32 [aC .u8 1 A3])]=_;unfold dg;rw [mZ h3]
end Go.RX.Fn

namespace Go.RX.Vb
open Go Go.RX Go.Proofs Go.Vs Go.RX.Sh
theorem vT(x:Nat):ar .rem .u64 (x:Int) 256=((x%256:Nat):Int):=rfl
theorem HC(x:Nat):ar .quo .u64 (x:Int) 256=((x/256:Nat):Int):=rfl
theorem Li(v:V1)(l:List Nat)(h: ∀x∈l,x<256)(hl:l.length+300≤140737488355328):aq aqQ 33 [v.v,.int .i64 32] [aT false v.v l] fun r hs=> ∃o:V1,r=o.v∧hs=[aT true o.v (dZ l)]:=by
 refine aq.post (Fn.HB v (fun j=>l.getD j 0) (IZ h) l.length hl) ?_;rintro r hs ⟨o,rfl,rfl⟩;refine⟨_,bJ.refl _,o,rfl,?_⟩;have e:aK 32 [aC .u8 1 fun j=>((vP l.length (fun j=>l.getD j 0) j:Nat):Int)]=aK 32 [aC .u8 1 (aL (dZ l))]:=Fg.mZ fun j hj=>(E5 l hj).symm
 show [aB true 5 1 o.v 32 (aK 32 [aC .u8 1 fun j=>((vP l.length (fun j=>l.getD j 0) j:Nat):Int)])]=[aB true 5 1 o.v (dZ l).length (aK (dZ l).length [aC .u8 1 (aL (dZ l))])];rw [e,cm]
theorem PM(v:V1)(l:List Nat)(h: ∀x∈l,x<256)(hl:l.length+300≤140737488355328):aq aqQ 33 [v.v,.int .i64 32] [aT true v.v l] fun r hs=> ∃o:V1,r=o.v∧hs=[aT true v.v l,aT true o.v (dZ l)]:=by
 refine aq.post (aq.Cg (A:=[]) (L:=[aT false v.v l]) (B:=[aT true v.v l]) (Li v l h hl) ?_ ?_) ?_
 ·rintro _ hs ⟨o,_,rfl⟩ x hx;rw [aqx.1 hx];rfl
 ·intro x hx;rw [aqx.1 hx];exact bc.own
 ·rintro r hs ⟨xQ,⟨o,rfl,rfl⟩,rfl⟩;exact⟨_,bJ.perm (List.Perm.swap _ _ _),o,rfl,rfl⟩
theorem Fb(v:V1)(l:List Nat)(h: ∀x∈l,x<256)(hn:l.length<256^4):aq aqQ 14 [v.v] [aT false v.v l] fun r hs=> ∃o:V1,r=o.v∧hs=[aT true o.v (dt l)]:=by
 refine PK _ (l.length:Int) (aL l) v ?_;unfold E_;have Rd:l.length<4294967296:=hn;intro b0;refine⟨by omega,fun _=>?_⟩;intro v1 v2;refine⟨by omega,fun _=>?_⟩;intro v3;have hb:cd (aw (aw (aw (aw (aw (aw (fun _=>(0:Int)) 0 72) 1 76) 2 83) 3 84) 4 0) 5 1) eh:=by
  intro j hj
  match j,hj with
  | 0,_=>rfl
  | 1,_=>rfl
  | 2,_=>rfl
  | 3,_=>rfl
  | 4,_=>rfl
  | 5,_=>rfl
  | j+6,hj=>exact absurd hj (by simp [eh])
 rw [iz hn,HC,iz (by omega),HC,iz (by omega),HC,iz (by omega),vT,vT,vT,vT,Sq (Nat.mod_lt _ (by decide)),Sq (Nat.mod_lt _ (by decide)),Sq (Nat.mod_lt _ (by decide)),Sq (Nat.mod_lt _ (by decide))];have h1:cd (bQ (aw (aw (aw (aw (aw (aw (fun _=>(0:Int)) 0 72) 1 76) 2 83) 3 84) 4 0) 5 1) 6 4 (aw (aw (aw (aw (fun _=>0) 3 ((l.length%256:Nat):Int)) 2 ((l.length/256%256:Nat):Int)) 1 ((l.length/256/256%256:Nat):Int)) 0 ((l.length/256/256/256%256:Nat):Int))) (eh++be 4 l.length):=hb.jl rfl (au 4 _).symm fun j hj=>by
  match j,hj with
  | 0,_=>rfl
  | 1,_=>rfl
  | 2,_=>rfl
  | 3,_=>rfl
  | j+4,hj=>omega
 have h2:cd _ (fk l):=h1.jl (o:=10) (n:=ag (l.length:Int)) (g:=aL l) (by simp [eh,au]) (aqD _) fun _ _=>rfl
 have e1:ag (10+(l.length:Int))=(fk l).length:=by rw [cM];omega
 rw [e1,h2.xE];refine⟨_,PM v3 (fk l) (uH h) (by rw [cM];omega),?_⟩;rintro x kT ⟨o,rfl,rfl⟩;refine⟨o,aL (dZ (fk l)),rfl,?_,?_⟩
 ·rw [aT,aT,cm];rfl
 refine⟨by omega,fun _=>⟨by omega,fun _=>?_⟩⟩;intro v5;have h3:cd (bQ (bQ (bQ (aw (aw (aw (aw (aw (aw (fun _=>(0:Int)) 0 72) 1 76) 2 83) 3 84) 4 0) 5 1) 6 4 (aw (aw (aw (aw (fun _=>0) 3 ((l.length%256:Nat):Int)) 2 ((l.length/256%256:Nat):Int)) 1 ((l.length/256/256%256:Nat):Int)) 0 ((l.length/256/256/256%256:Nat):Int))) 10 (ag (l.length:Int)) (aL l)) (fk l).length 8 (aL (dZ (fk l)))) (dt l):=h2.jl rfl (by rw [List.length_take,cm];rfl) fun j hj=>by
  rw [iF (by rw [cm];omega),iF (by rw [List.length_take,cm];omega),List.getElem_take]
 have e2:ag (10+(l.length:Int)+8)=(dt l).length:=by
  rw [dt,aql,cM,List.length_take,cm];omega
 rw [e2,h3.xE];exact⟨v5,rfl,rfl⟩
theorem Fc(v:V1)(l:List Nat)(hl:fX l)(hn:l.length<256^4):aq aqQ 18 [v.v] [aT false v.v l] fun r hs=>hs=[]∧
  (l.length<18→r= .tuple #[.slice none 0 0,.bool false])∧(18≤l.length→r= .tuple #[aE 1 v.v 10 (l.length - 8) none,.bool (dt (aQ l 10 (l.length - 8))==l)]):=by
 refine aq.post (PL (fun r _=>(l.length<18→r= .tuple #[.slice none 0 0,.bool false])∧(18≤l.length→r= .tuple #[aE 1 v.v 10 (l.length - 8) none,.bool (dt (aQ l 10 (l.length - 8))==l)])) (l.length:Int) (aL l) v ?_) ?_;rotate_left
 ·rintro r hs h;exact⟨[],bJ.sub (List.nil_sublist _),rfl,h⟩
 unfold Fa;dsimp only [bf,bp];have Rd:l.length<4294967296:=hn;refine⟨by omega,fun _=>⟨fun h=>⟨fun _=>rfl,fun h'=>absurd h (by omega)⟩,fun h=>?_⟩⟩
 iterate 4 refine⟨by omega,fun _=>?_⟩
 have en:ag ((l.length:Int) - 8)=l.length - 8:=by omega
 rw [en];obtain⟨m,hm⟩: ∃m,m=aQ l 10 (l.length - 8):=⟨_,rfl⟩;have Yu:m.length=l.length - 8 - 10:=by rw [hm];exact c_ (by omega) (by omega)
 have hmb: ∀x∈m,x<256:=by rw [hm];exact oP hl.b
 have hw:aq aqQ 14 [aE 1 v.v 10 (l.length - 8) none] ([]++[aT false (aE 1 v.v 10 (l.length - 8) none) m]) fun r hs=> ∃o:V1,r=o.v∧hs=[aT true o.v (dt m)]:=Fb ⟨_,bT 1 v.v 10 (l.length - 8) none⟩ m hmb (by omega)
 have Ce:aq aqQ 14 [aE 1 v.v 10 (l.length - 8) none] [aT false v.v l] fun r hs=> ∃o:V1,r=o.v∧hs=[aT false v.v l,aT true o.v (dt m)]:=by
  refine aq.post (aq.Cg (B:=[aT false v.v l]) hw ?_ ?_) ?_
  ·rintro _ hs ⟨o,_,rfl⟩ x hx;rw [aqx.1 hx];rfl
  ·intro x hx;rw [aqx.1 hx,hm];exact pD (bc.self rfl) (by omega) (by omega)
  ·rintro r hs ⟨xQ,⟨o,rfl,rfl⟩,rfl⟩;exact⟨_,bJ.perm (List.Perm.swap _ _ _),o,rfl,rfl⟩
 refine⟨_,Ce,?_⟩;rintro x kT ⟨o,rfl,rfl⟩;refine⟨o,((dt m).length:Int),aL (dt m),rfl,rfl,fun h'=>absurd h' (by omega),fun _=>?_⟩;have hwb: ∀x∈dt m,x<256:=by
  intro x hx;rcases aqC.1 hx with hx | hx
  ·exact uH hmb x hx
  ·exact CL _ x (List.mem_of_mem_take hx)
 rw [uJ _ _ (Nat.le_refl _),uJ _ _ (Nat.le_refl _),oQ,oQ,PJ hwb hl.b,hm]
open Go Go.RX Go.Proofs Go.Vs
theorem zF{s:Vs.State}{C:Nat→Int}{u1 u2 u3 u4 u5 u6 u7:Value}{H:HP}: ∀h∈fj false s C u1 u2 u3 u4 u5 u6 u7++[HP.look H],bc (fj true s C u1 u2 u3 u4 u5 u6 u7++[H]) h:=by
 intro h hh;rcases aqC.1 hh with hh | hh
 ·refine bc.left ?_;simp only [List.mem_cons,List.not_mem_nil,or_false]at hh;rcases hh with rfl | rfl | rfl | rfl | rfl | rfl | rfl
  ·exact iH (.head _)
  ·exact iH (.tail _ (.head _))
  ·exact iH (.tail _ (.tail _ (.head _)))
  ·exact iH (.tail _ (.tail _ (.tail _ (.head _))))
  ·exact iH (.tail _ (.tail _ (.tail _ (.tail _ (.head _)))))
  ·exact iH (.tail _ (.tail _ (.tail _ (.tail _ (.tail _ (.head _))))))
  ·exact iH (.tail _ (.tail _ (.tail _ (.tail _ (.tail _ (.tail _ (.head _)))))))
 ·rw [aqx.1 hh];exact bc.right bc.look
def s9(s:Vs.State)(most dP:Int):Int:=if lL s most dP=true then(if 4194286<(bq.enc s).length then 3 else 0)else 2
def lM(s:Vs.State)(most dP:Int):List Nat:=if s9 s most dP=0 then dt (bq.enc s)else []
theorem CR(s:Vs.State)(most dP:Int)(u1 u2 u3 u4 u5 u6 u7:V1)(C:Nat→Int)(H:HP)(hP:ob (HP.look H) s.table.bA C)(hs:BD s)(hm:lL s most dP=true→most=(s.table.most:Int)∧dP=(s.call.hJ:Int) - 1∧CA s)(hb:fX (bq.enc s)):
  aq aqQ 9 [.agg (rD s most dP u1.v u2.v u3.v u4.v u5.v u6.v u7.v).toArray] (fj true s C u1.v u2.v u3.v u4.v u5.v u6.v u7.v++[H]) fun r hs=>
   ∃o:V1,r= .tuple #[o.v,.int .i64 (s9 s most dP)]∧hs=fj true s C u1.v u2.v u3.v u4.v u5.v u6.v u7.v++[H]++[aT true o.v (lM s most dP)]:=by
 have h0:aq aqQ 9 [.agg (rD s most dP u1.v u2.v u3.v u4.v u5.v u6.v u7.v).toArray] ([]++(fj false s C u1.v u2.v u3.v u4.v u5.v u6.v u7.v++[HP.look H])) fun r hs=> ∃o:V1,r= .tuple #[o.v,.int .i64 (s9 s most dP)]∧hs=[aT true o.v (lM s most dP)]:=by
  refine aq.post (Lc s most dP u1 u2 u3 u4 u5 u6 u7 C (HP.look H) rfl hP hs hm hb) ?_;rintro r hs ⟨h1,h2,h3⟩;cases oc:lL s most dP with
  | false=>
   obtain⟨rfl,rfl⟩:=h1 oc;have e:s9 s most dP=2:=by unfold s9;rw [oc];rfl
   have e2:lM s most dP=[]:=by unfold lM;rw [e];rfl
   rw [e,e2];exact⟨_,bJ.vI 5 1,bg,rfl,rfl⟩
  | true=>
   by_cases hl:4194286<(bq.enc s).length
   ·obtain⟨rfl,rfl⟩:=h2 oc hl;have e:s9 s most dP=3:=by unfold s9;rw [if_pos oc,if_pos hl]
    have e2:lM s most dP=[]:=by unfold lM;rw [e];rfl
    rw [e,e2];exact⟨_,bJ.vI 5 1,bg,rfl,rfl⟩
   ·obtain⟨o,rfl,rfl⟩:=h3 oc (by omega);have e:s9 s most dP=0:=by unfold s9;rw [if_pos oc,if_neg hl]
    have e2:lM s most dP=dt (bq.enc s):=by unfold lM;rw [if_pos e]
    rw [e,e2];exact⟨_,bJ.refl _,o,rfl,rfl⟩
 refine aq.post (aq.Cg (B:=fj true s C u1.v u2.v u3.v u4.v u5.v u6.v u7.v++[H]) h0 ?_ (zF)) ?_
 ·rintro _ hs ⟨o,_,rfl⟩ x hx;rw [aqx.1 hx];rfl
 ·rintro r hs ⟨xQ,⟨o,rfl,rfl⟩,rfl⟩;exact⟨_,bJ.perm List.perm_append_comm,o,rfl,rfl⟩
theorem zG(s:Vs.State)(u1 u2 u3 u4 u5 u6 u7:V1)(C:Nat→Int)(H:HP)(hP:ob (HP.look H) s.table.bA C)(hs:CA s)(hl:(bq.enc s).length≤140737488355328):
  aq aqQ 13 [.agg (jO s u1.v u2.v u3.v u4.v u5.v u6.v u7.v).toArray] (fj true s C u1.v u2.v u3.v u4.v u5.v u6.v u7.v++[H]) fun r hs=> ∃o:V1,r=o.v∧hs=fj true s C u1.v u2.v u3.v u4.v u5.v u6.v u7.v++[H]++[aT true o.v (bq.enc s)]:=by
 have h0:aq aqQ 13 [.agg (jO s u1.v u2.v u3.v u4.v u5.v u6.v u7.v).toArray] ([]++(fj false s C u1.v u2.v u3.v u4.v u5.v u6.v u7.v++[HP.look H])) fun r hs=> ∃o:V1,r=o.v∧hs=[aT true o.v (bq.enc s)]:=zz s u1 u2 u3 u4 u5 u6 u7 C (HP.look H) rfl hP hs hl
 refine aq.post (aq.Cg (B:=fj true s C u1.v u2.v u3.v u4.v u5.v u6.v u7.v++[H]) h0 ?_ (zF)) ?_
 ·rintro _ hs ⟨o,_,rfl⟩ x hx;rw [aqx.1 hx];rfl
 ·rintro r hs ⟨xQ,⟨o,rfl,rfl⟩,rfl⟩;exact⟨_,bJ.perm List.perm_append_comm,o,rfl,rfl⟩
theorem CS(s:Vs.State)(most dP:Int)(u1 u2 u3 u4 u5 u6 u7:V1)(C:Nat→Int)(H:HP)(hP:ob (HP.look H) s.table.bA C)(hs:BD s):
  aq aqQ 10 [.agg (rD s most dP u1.v u2.v u3.v u4.v u5.v u6.v u7.v).toArray] (fj true s C u1.v u2.v u3.v u4.v u5.v u6.v u7.v++[H]) fun r hs=>hs=fj true s C u1.v u2.v u3.v u4.v u5.v u6.v u7.v++[H]∧r= .bool (lL s most dP):=
 nH (vM s most dP u1 u2 u3 u4 u5 u6 u7 C (HP.look H) rfl hP hs) (zF)
def yg:Vs.State:=⟨Su,0,⟨⟨⟨0,0⟩,Su,Su,[]⟩,0,[]⟩,⟨⟨0,0⟩,List.replicate 8 0,[],0,List.replicate 16 0,false,0,⟨0,0⟩,Su,Su,Su,[],1,[],0,0,0,0,0,0⟩,[],[]⟩
set_option maxRecDepth 100000 in
theorem Ff:Rx=jO yg bg.v bg.v bg.v bg.v bg.v bg.v bg.v:=by rfl
def lR(l:List Nat):Int:=if gH l=none then(if 4194304<l.length then 3 else 9)else 0
def aG(l:List Nat):Vs.State:=(gH l).getD yg
theorem Xu{s:Vs.State}{C:Nat→Int}{u1 u2 u3 u4 u5 u6 u7:Value}: ∀h∈fj true s C u1 u2 u3 u4 u5 u6 u7,h.wr=true:=by
 intro h hh;simp only [List.mem_cons,List.not_mem_nil,or_false]at hh;rcases hh with rfl | rfl | rfl | rfl | rfl | rfl | rfl<;>rfl
theorem zH(v:V1)(l:List Nat)(hl:fX l)(B:List HP)(hB:bc B (aT false v.v l)):aq aqQ 17 [v.v] B fun r hs=>
  ∃(u1 u2 u3 u4 u5 u6 u7:V1) (C:Nat→Int) (H:HP),r= .tuple #[.agg (jO (aG l) u1.v u2.v u3.v u4.v u5.v u6.v u7.v).toArray,.int .i64 (lR l)]∧hs=B++(fj true (aG l) C u1.v u2.v u3.v u4.v u5.v u6.v u7.v++[H])∧H.wr=true∧ob (HP.look H) (aG l).table.bA C:=by
 have h0:aq aqQ 17 [v.v] ([]++[aT false v.v l]) fun r hs=> ∃(u1 u2 u3 u4 u5 u6 u7:V1) (C:Nat→Int) (H:HP),r= .tuple #[.agg (jO (aG l) u1.v u2.v u3.v u4.v u5.v u6.v u7.v).toArray,.int .i64 (lR l)]∧hs=fj true (aG l) C u1.v u2.v u3.v u4.v u5.v u6.v u7.v++[H]∧H.wr=true∧ob (HP.look H) (aG l).table.bA C:=by
  refine aq.post (Hy v l hl) ?_;rintro r hs ⟨h1,h2⟩;cases h:gH l with
  | none=>
   obtain⟨rfl,rfl⟩:=h2 h;have e:aG l=yg:=by unfold aG;rw [h];rfl
   have e2:lR l=if 4194304<l.length then 3 else 9:=by unfold lR;rw [if_pos h]
   rw [e,e2,Ff];refine⟨_,?_,bg,bg,bg,bg,bg,bg,bg,fun _=>0,HP.none,rfl,rfl,rfl,fun i hi=>absurd hi (Nat.not_lt_zero i)⟩;exact bJ.uK (bJ.uK (b:=[_]) (bJ.vI 93 33) (bJ.uK (b:=[_]) (bJ.vI 68 3) (bJ.uK (b:=[_]) (bJ.vI 36 16) (bJ.uK (b:=[_]) (bJ.vI 5 1) (bJ.uK (b:=[_]) (bJ.vI 26 2) (bJ.uK (b:=[_]) (bJ.vI 5 1) (bJ.vI 98 19))))))) bJ.none
  | some S=>
   obtain⟨u1,u2,u3,u4,u5,u6,u7,C,H,rfl,rfl,h3,h4⟩:=h1 S h;have e:aG l=S:=by unfold aG;rw [h];rfl
   have e2:lR l=0:=by unfold lR;rw [if_neg (by rw [h];simp)]
   rw [e,e2];exact⟨_,bJ.perm (List.perm_append_comm (l₁:=[H])),u1,u2,u3,u4,u5,u6,u7,C,H,rfl,rfl,h3,h4⟩
 refine aq.post (aq.Cg (B:=B) h0 ?_ ?_) ?_
 ·rintro _ hs ⟨u1,u2,u3,u4,u5,u6,u7,C,H,_,rfl,h3,_⟩ x hx;rcases aqC.1 hx with hx | hx
  ·exact Xu x hx
  ·rw [aqx.1 hx];exact h3
 ·intro x hx;rw [aqx.1 hx];exact hB
 ·rintro r hs ⟨xQ,⟨u1,u2,u3,u4,u5,u6,u7,C,H,rfl,rfl,h3,h4⟩,rfl⟩;exact⟨_,bJ.perm List.perm_append_comm,u1,u2,u3,u4,u5,u6,u7,C,H,rfl,rfl,h3,h4⟩
open Go Go.RX Go.Proofs Go.Vs
set_option maxRecDepth 100000 in
theorem Lj{o:List dx}(h:o=[]∨o=hU):lL (plain o) 31 (-1)=true:=by
 rcases h with rfl | rfl<;>decide
theorem Fo{o:List dx}(h:o=[]∨o=hU):bq.ok (plain o):=by
 have ho:o.length<256^4∧∀a∈o,dG.ok a:=by
  rcases h with rfl | rfl
  ·exact⟨by decide,fun a ha=>by cases ha⟩
  ·refine⟨by decide,fun a ha=>?_⟩;rw [hU,aqx]at ha;subst ha;exact⟨(by decide:3<256^4),rfl⟩
 have n0: ∀{α:Type} {c:p9 α},(list c).ok []:=fun {α c}=>⟨by show 0<256^4;decide,fun a ha=>by cases ha⟩
 exact⟨rfl,(by decide:0<256^8),⟨⟨⟨(by decide:1<256^1),(by decide:2<256^1)⟩,rfl,rfl,ho⟩,(by decide:31<256^4),n0⟩,⟨⟨(by decide:1<256^1),(by decide:2<256^1)⟩,rfl,n0,(by decide:0<256^1),rfl,trivial,(by decide:0<256^1),⟨(by decide:0<256^1),(by decide:0<256^1)⟩,rfl,rfl,rfl,(by decide:0<256^4),(by decide:0<256^1),n0,(by decide:0<256^8),(by decide:0<256^8),(by decide:0<256^8),(by decide:0<256^8),(by decide:0<256^8),(by decide:0<256^4)⟩,(by decide:0<256^4),n0⟩
theorem HD{s:Vs.State}(jf:bq.ok s)(hlen:(bq.enc s).length≤4194286)(oc:lL s (s.table.most:Int) ((s.call.hJ:Int) - 1)=true):gH (dt (bq.enc s))=some s:=by
 obtain⟨m,hm⟩: ∃m,m=bq.enc s:=⟨_,rfl⟩;have hf:=bq.fwd s [] jf;rw [List.append_nil]at hf;rw [←hm]at hlen hf ⊢;obtain⟨h1,h2,h3⟩:=E8 (l:=dt m) (m:=m) rfl (Nat.lt_of_le_of_lt hlen (by decide));have hi:oe (dt m)=(s,some []):=by
  unfold oe;rw [h3];exact hf
 have hl:(dt m).length≤4194304:=by
  rw [dt,aql,cM,List.length_take,cm];omega
 unfold gH;rw [hi,if_pos ⟨hl,h1,h2,rfl,oc⟩]
theorem PN{l:List Nat}(h:zC l):gH (aQ l 0 (l.length - 1))=none:=by
 unfold gH;rw [if_neg];rintro ⟨_,⟨h18,_⟩,⟨hn,_⟩,_⟩;have hl:(aQ l 0 (l.length - 1)).length=l.length - 1:=c_ (Nat.zero_le _) (by omega);rw [hl]at h18 hn;have e:aQ (aQ l 0 (l.length - 1)) 6 10=aQ l 6 10:=by
  simp only [aQ,List.drop_zero,List.drop_take,List.take_take];congr 1;omega
 rw [e,h.1]at hn;omega
end Go.RX.Vb
