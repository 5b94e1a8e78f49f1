/- Frames. -/
import Derived.Test.YtmgbbbmdbpbeeaaGreatM37
open Classical renaming not_not → ae6
open Go.IntKind renaming wrap → ae
open Go.Proofs.Tryz renaming prog → ae0
open Int renaming toNat → ag, toNat_natCast → afe
open List renaming getD_cons_zero → ah
open List.cons renaming injEq → ae8
open Nat renaming lt_of_lt_of_le → ae_, mod_eq_of_lt → afp
namespace Go.RX.Fl
open Go Go.RX Go.Proofs Go.RX.Sh Go.RX.Fg Go.RX.Fi Go.RX.Fj Go.RX.Fk Go.Hd Go.Gh Go.Gc Go.Ae Go.RX.Fe Go.Se
def oO(n:Nat):Nat:=if n=0 then 1 else dg n
theorem WR(n i:Nat)(hn:n<18446744073709551616)(h0:n/256^i=0)(h1:n/256^(i - 1)≠0)(hi:1≤i):dg n=i:=by
 have i8:i≤8:=by
  refine Classical.byContradiction fun h=>h1 ?_
  refine Nat.div_eq_of_lt (ae_ hn ?_);exact Nat.le_trans (by decide:18446744073709551616≤256^8) (Nat.pow_le_pow_right (by decide) (by omega))
 have n0:n≠0:=fun h=>h1 (by rw [h,Nat.zero_div])
 unfold dg;rw [if_neg n0]
 match i,hi,i8 with
 | 1,_,_=>simp only [Nat.reducePow,Nat.reduceSub]at h0 h1;rw [if_pos (by omega)]
 | 2,_,_=>simp only [Nat.reducePow,Nat.reduceSub]at h0 h1;rw [if_neg (by omega),if_pos (by omega)]
 | 3,_,_=>simp only [Nat.reducePow,Nat.reduceSub]at h0 h1;rw [if_neg (by omega),if_neg (by omega),if_pos (by omega)]
 | 4,_,_=>simp only [Nat.reducePow,Nat.reduceSub]at h0 h1;rw [if_neg (by omega),if_neg (by omega),if_neg (by omega),if_pos (by omega)]
 | 5,_,_=>simp only [Nat.reducePow,Nat.reduceSub]at h0 h1;rw [if_neg (by omega),if_neg (by omega),if_neg (by omega),if_neg (by omega),if_pos (by omega)]
 | 6,_,_=>simp only [Nat.reducePow,Nat.reduceSub]at h0 h1;rw [if_neg (by omega),if_neg (by omega),if_neg (by omega),if_neg (by omega),if_neg (by omega),if_pos (by omega)]
 | 7,_,_=>simp only [Nat.reducePow,Nat.reduceSub]at h0 h1;rw [if_neg (by omega),if_neg (by omega),if_neg (by omega),if_neg (by omega),if_neg (by omega),if_neg (by omega),if_pos (by omega)]
 | 8,_,_=>simp only [Nat.reducePow,Nat.reduceSub]at h0 h1;rw [if_neg (by omega),if_neg (by omega),if_neg (by omega),if_neg (by omega),if_neg (by omega),if_neg (by omega),if_neg (by omega)]
 | i+9,_,h=>exact absurd h (by omega)
theorem Ua(n i:Nat)(hn:n<18446744073709551616)(h0:n/256^i=0)(h1:i=1∨n/256^(i - 1)≠0)(hi:1≤i):oO n=i:=by
 unfold oO;by_cases n0:n=0
 ·rw [if_pos n0];rcases h1 with h | h
  ·exact h.symm
  ·exact absurd (by rw [n0,Nat.zero_div]) h
 ·rw [if_neg n0];refine WR n i hn h0 ?_ hi;rcases h1 with rfl | h
  ·rw [Nat.sub_self,Nat.pow_zero,Nat.div_one];exact n0
  ·exact h
theorem UR{n:Nat}(h: ¬n<8):hb n=oO n:=by
 unfold hb oO;rw [if_neg h,if_neg (by omega)]
theorem NS(n:Nat):oO n≤8:=by
 unfold oO;split
 ·decide
 ·exact IK n
theorem vr(n:Nat)(hn:n<18446744073709551616):aw ae0 70 [.int .u64 (n:Int)] [] fun r hs=> ∃o:V1,r=o.v∧hs=[aj true o (oO n) (be (oO n) n)]:=by
 refine Jd _ (n:Int) ?_;unfold zR;intro b0 v0;rw [uj hn,T_];refine⟨fun e=> ∃i:Nat,1≤i∧i≤8∧(i=1∨n/256^(i - 1)≠0)∧e.i=[((n/256^i:Nat):Int),(i:Int)]∧∀j,j<i→(e.a.getD 0 fun _=>0) j=(be i n j:Nat),fun e=>(e.i.getD 0 0).toNat,⟨v0,_,_,_,rfl,rfl,rfl,rfl,fun _ _=>rfl,1,by omega,by omega,.inl rfl,?_,?_⟩,?_⟩
 ·rw [Nat.pow_one];rfl
 ·intro j hj;simp only [ah];unfold be;rw [show 1 - 1 - j=0 by omega,Nat.pow_zero,Nat.div_one]
 rintro v1 x1 x2 A0 ⟨i,FG,hi8,nD,hx,hA⟩;simp only [ae8,and_true]at hx;obtain⟨rfl,rfl⟩:=hx;simp only [ah]at hA;have hq:n/256^i<2^64:=Nat.lt_of_le_of_lt (Nat.div_le_self _ _) hn;have hd:n/256^i/256=n/256^(i+1):=by rw [Nat.div_div_eq_div_mul,←Nat.pow_succ]
 refine⟨fun bU b1=>?_,fun iH=>?_⟩
 ·have eZ:n/256^i≠0:=by omega
  have i7:i≤7:=by
   refine Classical.byContradiction fun h=>eZ ?_
   refine Nat.div_eq_of_lt (ae_ hn ?_);exact Nat.le_trans (by decide:18446744073709551616≤256^8) (Nat.pow_le_pow_right (by decide) (by omega))
  rw [uj hq,T_,hd];refine⟨by omega,fun _=>⟨by omega,fun _=>⟨by omega,fun _ v2=>?_⟩⟩⟩;refine⟨v2,_,_,_,rfl,rfl,rfl,rfl,fun _ _=>rfl,⟨i+1,by omega,by omega,.inr (by rw [Nat.add_sub_cancel];exact eZ),?_,?_⟩,?_⟩
  ·rw [show(1:Int)+(i:Int)=((i+1:Nat):Int) by omega]
  ·intro j hj;simp only [ah];show aI (fun _=>((n/256^i%256:Nat):Int)) 1 (ag (i:Int)) A0 j=_;rw [afe];unfold aI;by_cases c:j=0
   ·subst c;rw [if_neg (by omega)];unfold be;rw [show i+1 - 1 - 0=i by omega]
   ·rw [if_pos (by omega),hA (j - 1) (by omega)];unfold be;rw [show i - 1 - (j - 1)=i+1 - 1 - j by omega]
  ·simp only [ah];have:n/256^(i+1)<n/256^i:=by
    rw [←hd];exact Nat.div_lt_self (Nat.pos_of_ne_zero eZ) (by decide)
   omega
 ·have h0:n/256^i=0:=Nat.eq_zero_of_not_pos fun h=>iH (Int.ofNat_lt.2 h)
  have e:=Ua n i hn h0 nD FG;refine⟨v1,rfl,?_⟩;unfold aj;dsimp only [bo,bi,bn];rw [e,afe,aW hA]
theorem jF(aU aS:Nat)(hk:aU<18446744073709551616)(hc:aS<18446744073709551616):
  aw ae0 31 [.agg #[.int .u64 (aU:Int),.int .u64 (aS:Int)]] [] fun r hs=> ∃o:V1,r=o.v∧hs=[aj true o (bN aU aS) (dx aU aS)]:=by
 refine O5 _ (aU:Int) (aS:Int) ?_;unfold Hv;intro b0;refine⟨_,vr aU hk,?_⟩;rintro x hs ⟨v0,rfl,rfl⟩;refine⟨v0,(oO aU:Nat),fun j=>(be (oO aU) aU j:Nat),rfl,rfl,?_⟩;refine⟨_,vr aS hc,?_⟩;rintro x hs ⟨v1,rfl,rfl⟩;refine⟨v1,(oO aS:Nat),fun j=>(be (oO aS) aS j:Nat),rfl,rfl,?_⟩;have d0:=NS aU;have d1:=NS aS;have fin: ∀(o:V1) (x:Int) (n m:Nat) (F G:Nat→Int),ae .u8 x=((hU aU*16+hU aS:Nat):Int)→n=hb aU→m=hb aS→(∀j,j<n→F j=(be (hb aU) aU j:Nat))→(∀j,j<m→G j=(be (hb aS) aS j:Nat))→
   [aE true 5 1 o.v (1+n+m) (aQ (1+n+m) [aO .u8 1 (aI (aI (fun _=>ae .u8 x) 1 n F) (1+n) m G)])]=[aj true o (bN aU aS) (dx aU aS)]:=by
  intro o x n m F G hx hn hm hF hG;subst hn;subst hm;unfold aj bN;congr 2;refine aW fun j hj=>?_
  unfold aI dx;by_cases c0:j=0
  ·rw [if_neg (by omega),if_neg (by omega),if_pos c0,hx]
  ·by_cases c1:j<1+hb aU
   ·rw [if_neg (by omega),if_pos (by omega),if_neg c0,if_pos c1,hF _ (by omega)]
   ·rw [if_pos (by omega),if_neg c0,if_neg c1,hG _ (by omega)]
 have w8: ∀a:Nat,a<256→ae .u8 (a:Int)=(a:Int):=fun a h=>by rw [wrap_u8,afp h]
 refine⟨fun Gv=>?_,fun Gv=>?_⟩
 ·have n1:hU aU=aU:=by unfold hU;rw [if_pos (by omega)]
  have b1:hb aU=0:=ey (by omega)
  iterate 4 refine⟨by omega,fun _=>?_⟩
  refine⟨fun ZE=>?_,fun ZE=>?_⟩
  ·have n2:hU aS=aS:=by unfold hU;rw [if_pos (by omega)]
   have b2:hb aS=0:=ey (by omega)
   iterate 3 refine⟨by omega,fun _=>?_⟩
   refine⟨by omega,fun _ b3 v2 v3=>⟨v3,rfl,?_⟩⟩;refine fin v3 _ 0 0 _ _ ?_ b1.symm b2.symm (fun j hj=>absurd hj (by omega)) (fun j hj=>absurd hj (by omega));rw [show(16:Int)*(aU:Int)+(aS:Int)=((hU aU*16+hU aS:Nat):Int) by omega];exact w8 _ (by omega)
  ·have n2:hU aS=7+oO aS:=by
    have:=UR (n:=aS) (by omega);unfold hU;rw [if_neg (by omega),←this];unfold hb;rw [if_neg (by omega)]
   have b2:hb aS=oO aS:=UR (by omega)
   iterate 6 refine⟨by omega,fun _=>?_⟩
   refine⟨by omega,fun _ b3 v2=>⟨by omega,fun _ v3=>⟨v3,rfl,?_⟩⟩⟩;have:=fin v3 (16*(aU:Int)+8+((oO aS:Nat):Int) - 1) 0 (oO aS) (fun _=>0) (fun j=>((be (oO aS) aS j:Nat):Int)) ?_ b1.symm b2.symm (fun j hj=>absurd hj (by omega)) (fun j hj=>by rw [b2])
   ·dsimp only [bo,bi,bn];rw [show ag ((1:Int)+((oO aS:Nat):Int))=1+0+oO aS by omega];exact this
   ·rw [show(16:Int)*(aU:Int)+8+((oO aS:Nat):Int) - 1=((hU aU*16+hU aS:Nat):Int) by omega];exact w8 _ (by omega)
 ·have n1:hU aU=7+oO aU:=by
   have:=UR (n:=aU) (by omega);unfold hU;rw [if_neg (by omega),←this];unfold hb;rw [if_neg (by omega)]
  have b1:hb aU=oO aU:=UR (by omega);have t1:ag ((1:Int)+((oO aU:Nat):Int))=1+oO aU:=by omega
  rw [t1]
  iterate 7 refine⟨by omega,fun _=>?_⟩
  refine⟨fun ZE=>?_,fun ZE=>?_⟩
  ·have n2:hU aS=aS:=by unfold hU;rw [if_pos (by omega)]
   have b2:hb aS=0:=ey (by omega)
   iterate 3 refine⟨by omega,fun _=>?_⟩
   refine⟨by omega,fun _ b3=>⟨by omega,fun _ v2=>⟨by omega,fun _ v3=>⟨v3,rfl,?_⟩⟩⟩⟩;refine fin v3 _ (oO aU) 0 _ _ ?_ b1.symm b2.symm (fun j hj=>by rw [b1]) (fun j hj=>absurd hj (by omega));rw [show(16:Int)*(8+((oO aU:Nat):Int) - 1)+(aS:Int)=((hU aU*16+hU aS:Nat):Int) by omega];exact w8 _ (by omega)
  ·have n2:hU aS=7+oO aS:=by
    have:=UR (n:=aS) (by omega);unfold hU;rw [if_neg (by omega),←this];unfold hb;rw [if_neg (by omega)]
   have b2:hb aS=oO aS:=UR (by omega)
   iterate 6 refine⟨by omega,fun _=>?_⟩
   refine⟨by omega,fun _ b3=>⟨by omega,fun _ v2=>⟨by omega,fun _=>⟨by omega,fun _ v3=>⟨v3,rfl,?_⟩⟩⟩⟩⟩;dsimp only [bo,bi,bn];rw [show ag ((1:Int)+((oO aU:Nat):Int)+((oO aS:Nat):Int))=1+oO aU+oO aS by omega];refine fin v3 _ (oO aU) (oO aS) _ _ ?_ b1.symm b2.symm (fun j hj=>by rw [b1]) (fun j hj=>by rw [b2]);rw [show(16:Int)*(8+((oO aU:Nat):Int) - 1)+8+((oO aS:Nat):Int) - 1=((hU aU*16+hU aS:Nat):Int) by omega];exact w8 _ (by omega)
theorem uk{B:List HP}(aU aS:Nat)(hk:aU<18446744073709551616)(hc:aS<18446744073709551616):aw ae0 31 [.agg #[.int .u64 (aU:Int),.int .u64 (aS:Int)]] B fun r hs=> ∃o:V1,r=o.v∧hs=B++[aj true o (bN aU aS) (dx aU aS)]:=
 bJ (jF aU aS hk hc) (by simp)
open Go Go.RX Go.Proofs Go.RX.Sh Go.RX.Fg Go.RX.Fi Go.RX.Fj Go.RX.Fk Go.Hd Go.Gh Go.Gc Go.Ae Go.RX.Fe Go.Se
theorem WS: ∀t:Fin 256,ae .u8 (ak .quo .u8 ((t.val:Nat):Int) 16)=((t.val/16:Nat):Int):=by decide+kernel
theorem WT(t:Nat):ak .rem .u8 ((t:Nat):Int) 16=((t%16:Nat):Int):=rfl
theorem step{w t:Nat}(hw:w<2^56)(ht:t<256):ae .u64 (ae .u64 (256*(w:Int))+ae .u64 (t:Int))=((w*256+t:Nat):Int):=by
 rw [show(256:Int)*(w:Int)=((w*256:Nat):Int) by omega,oD (by omega),oD (by omega),show((w*256:Nat):Int)+(t:Int)=((w*256+t:Nat):Int) by omega,oD (by omega)]
def AP(n:Nat)(T:Nat→Nat)(r:Value):Prop:=
 ∃a b c:Nat,r= .tuple #[.agg #[.int .u64 (a:Int),.int .u64 (b:Int)],.int .i64 (c:Int)]∧((nE n T∧a=bZ T∧b=bf T∧c=hlen T)∨(¬nE n T∧c=0))
theorem sZ{n:Nat}{T:Nat→Nat}(h: ¬nE n T):AP n T (.tuple #[.agg #[.int .u64 0,.int .u64 0],.int .i64 0]):=⟨0,0,0,rfl,.inr ⟨h,rfl⟩⟩
set_option maxHeartbeats 4000000 in
theorem rJ(v0:V1)(n:Nat)(T:Nat→Nat)(hT: ∀j,T j<256):aw ae0 24 [v0.v] [aj false v0 n T] fun r hs=>AP n T r∧hs=[]:=by
 refine aw.post (p:=fun r _=>AP n T r) ?_ fun v hs h=>⟨[],bX.sub (List.nil_sublist _),h,rfl⟩
 refine Lt _ (n:Int) (fun j=>(T j:Nat)) v0 ?_;unfold CT;dsimp only;have yZ:=hT 0;have hq:=WS ⟨T 0,yZ⟩;dsimp only at hq;rw [hq,WT];obtain⟨a,ha⟩: ∃a,a=T 0/16:=⟨_,rfl⟩;obtain⟨c,hc⟩: ∃c,c=T 0%16:=⟨_,rfl⟩;rw [←ha,←hc];have Ub:a<16:=by omega
 have Uc:c<16:=by omega
 have wa:ae .u64 (a:Int)=(a:Int):=oD (by omega);have wc:ae .u64 (c:Int)=(c:Int):=oD (by omega);rw [wa,wc];have CL:=ND hT;have dH:=wZ hT;have XZ: ∀(o i:Nat),i≤7→mM (fun j=>T (o+j)) i<2^56:=fun o i hi=>ae_ (pJ _ (fun j=>hT _) i) (Nat.le_trans (Nat.pow_le_pow_right (by decide) hi) (by decide))
 have fin: ∀z:Int,z=((hlen T:Nat):Int)→hlen T≤n→aR (¬(cj (g9 (fun j=>((dx (bZ T) (bf T) j:Nat):Int)) ((bN (bZ T) (bf T):Nat):Int))=cj (g9 (fun j=>((T j:Nat):Int)) z))) (AP n T (.tuple #[.agg #[.int .u64 0,.int .u64 0],.int .i64 0])) (AP n T (.tuple #[.agg #[.int .u64 (bZ T:Nat),.int .u64 (bf T:Nat)],.int .i64 z])):=by
  intro z hz hle;subst hz;have mP:=B7 (n:=bN (bZ T) (bf T)) (m:=hlen T) (F:=fun j=>((dx (bZ T) (bf T) j:Nat):Int)) (G:=fun j=>((T j:Nat):Int)) (A:=dx (bZ T) (bf T)) (B:=T) (fun _ _=>rfl) (fun _ _=>rfl) (pN _ _) hT;have hpb:=NF hT;refine⟨fun h=>sZ fun hh=>h (mP.2 (hpb.2 ⟨hh.2.1,hh.2.2⟩)),fun h=>?_⟩;have:=hpb.1 (mP.1 (ae6.1 h));exact⟨_,_,_,rfl,.inl ⟨⟨hle,this.1,this.2⟩,rfl,rfl,rfl⟩⟩
 intro b0;refine⟨by omega,fun _=>⟨fun h0=>sZ fun h=>by have:=h.1;omega,fun h0=>⟨by omega,fun _=>⟨fun ZF=>?_,fun ZF=>?_⟩⟩⟩⟩
 ·have a8:8≤a:=by omega
  have k0:nk T=a - 7:=by unfold nk;rw [if_neg (by omega),ha]
  have e1:bZ T=mM (fun j=>T (1+j)) (a - 7):=by
   unfold bZ;rw [if_neg (by omega),k0]
  repeat (refine⟨by omega,fun _=>?_⟩)
  refine⟨fun h8=>?_,fun h8=>?_⟩
  ·have c8:8≤c:=by omega
   have c0:nc T=c - 7:=by unfold nc;rw [if_neg (by omega),hc]
   have e2:bf T=mM (fun j=>T (1+(a - 7)+j)) (c - 7):=by
    unfold bf;rw [if_neg (by omega),c0,k0]
   repeat (refine⟨by omega,fun _=>?_⟩)
   refine⟨fun hs=>sZ fun h=>by have:=h.1;omega,fun hs b1=>?_⟩;refine⟨fun hk=>⟨fun hcc=>?_,fun hcc=>by omega⟩,fun hk=>by omega⟩;refine⟨fun e=> ∃i:Nat,i≤a - 7∧e.i=[(i:Int),((mM (fun j=>T (1+j)) i:Nat):Int)],fun e=>((16:Int) - e.i.getD 0 0).toNat,⟨_,_,rfl,rfl,0,by omega,rfl⟩,?_⟩;rintro y1 y2 ⟨i,hi,hx⟩;simp only [ae8,and_true]at hx;obtain⟨rfl,rfl⟩:=hx;refine⟨fun bU=>?_,fun iH=>?_⟩
   ·repeat (refine⟨by omega,fun _=>?_⟩)
    refine⟨_,_,rfl,rfl,⟨i+1,by omega,?_⟩,?_⟩
    ·rw [show ag (1+(i:Int))=1+i by omega,step (XZ _ i (by omega)) (hT _)];rfl
    ·simp only [ah];omega
   have DO:i=a - 7:=by omega
   subst DO;refine⟨fun e=> ∃i:Nat,i≤c - 7∧e.i=[(i:Int),((mM (fun j=>T (1+(a - 7)+j)) i:Nat):Int)],fun e=>((16:Int) - e.i.getD 0 0).toNat,⟨_,_,rfl,rfl,0,by omega,rfl⟩,?_⟩;rintro z1 z2 ⟨k,hk,hx⟩;simp only [ae8,and_true]at hx;obtain⟨rfl,rfl⟩:=hx;refine⟨fun bU=>?_,fun iH=>?_⟩
   ·repeat (refine⟨by omega,fun _=>?_⟩)
    refine⟨_,_,rfl,rfl,⟨k+1,by omega,?_⟩,?_⟩
    ·rw [show ag ((1:Int)+((a:Int) - 7)+(k:Int))=1+(a - 7)+k by omega,step (XZ _ k (by omega)) (hT _)];rfl
    ·simp only [ah];omega
   have qZ:k=c - 7:=by omega
   subst qZ;rw [←e1,←e2]
   repeat (refine⟨by omega,fun _=>?_⟩)
   refine⟨_,jF (bZ T) (bf T) CL dH,?_⟩;rintro x hs ⟨v1,rfl,rfl⟩;refine⟨v1,(bN (bZ T) (bf T):Nat),fun j=>(dx (bZ T) (bf T) j:Nat),rfl,rfl,?_⟩;exact fin _ (by unfold hlen;omega) (by unfold hlen;omega)
  ·have c8:c<8:=by omega
   have c0:nc T=0:=by unfold nc;rw [if_pos (by omega)]
   have e2:bf T=c:=by unfold bf;rw [if_pos (by omega),hc]
   repeat (refine⟨by omega,fun _=>?_⟩)
   refine⟨fun hs=>sZ fun h=>by have:=h.1;omega,fun hs b1=>?_⟩;refine⟨fun hk=>?_,fun hk=>by omega⟩;refine⟨fun e=> ∃i:Nat,i≤a - 7∧e.i=[(i:Int),((mM (fun j=>T (1+j)) i:Nat):Int)],fun e=>((16:Int) - e.i.getD 0 0).toNat,⟨_,_,rfl,rfl,0,by omega,rfl⟩,?_⟩;rintro y1 y2 ⟨i,hi,hx⟩;simp only [ae8,and_true]at hx;obtain⟨rfl,rfl⟩:=hx;refine⟨fun bU=>?_,fun iH=>?_⟩
   ·repeat (refine⟨by omega,fun _=>?_⟩)
    refine⟨_,_,rfl,rfl,⟨i+1,by omega,?_⟩,?_⟩
    ·rw [show ag (1+(i:Int))=1+i by omega,step (XZ _ i (by omega)) (hT _)];rfl
    ·simp only [ah];omega
   have DO:i=a - 7:=by omega
   subst DO;refine⟨fun e=>e.i=[0,(c:Int)],fun _=>0,⟨_,_,rfl,rfl,rfl⟩,?_⟩;rintro z1 z2 hx;simp only [ae8,and_true]at hx;obtain⟨rfl,rfl⟩:=hx;refine⟨fun bU=>absurd bU (by omega),fun iH=>?_⟩;rw [←e1,←e2]
   repeat (refine⟨by omega,fun _=>?_⟩)
   refine⟨_,jF (bZ T) (bf T) CL dH,?_⟩;rintro x hs ⟨v1,rfl,rfl⟩;refine⟨v1,(bN (bZ T) (bf T):Nat),fun j=>(dx (bZ T) (bf T) j:Nat),rfl,rfl,?_⟩;exact fin _ (by unfold hlen;omega) (by unfold hlen;omega)
 ·have a8:a<8:=by omega
  have k0:nk T=0:=by unfold nk;rw [if_pos (by omega)]
  have e1:bZ T=a:=by unfold bZ;rw [if_pos (by omega),ha]
  repeat (refine⟨by omega,fun _=>?_⟩)
  refine⟨fun h8=>?_,fun h8=>?_⟩
  ·have c8:8≤c:=by omega
   have c0:nc T=c - 7:=by unfold nc;rw [if_neg (by omega),hc]
   have e2:bf T=mM (fun j=>T (1+j)) (c - 7):=by
    unfold bf;rw [if_neg (by omega),c0,k0]
   repeat (refine⟨by omega,fun _=>?_⟩)
   refine⟨fun hs=>sZ fun h=>by have:=h.1;omega,fun hs b1=>?_⟩;refine⟨fun hk=>?_,fun hk=>by omega⟩;refine⟨fun e=>e.i=[0,(a:Int)],fun _=>0,⟨_,_,rfl,rfl,rfl⟩,?_⟩;rintro y1 y2 hx;simp only [ae8,and_true]at hx;obtain⟨rfl,rfl⟩:=hx;refine⟨fun bU=>absurd bU (by omega),fun iH=>?_⟩;refine⟨fun e=> ∃i:Nat,i≤c - 7∧e.i=[(i:Int),((mM (fun j=>T (1+j)) i:Nat):Int)],fun e=>((16:Int) - e.i.getD 0 0).toNat,⟨_,_,rfl,rfl,0,by omega,rfl⟩,?_⟩;rintro z1 z2 ⟨k,hk,hx⟩;simp only [ae8,and_true]at hx;obtain⟨rfl,rfl⟩:=hx;refine⟨fun bU=>?_,fun iH=>?_⟩
   ·repeat (refine⟨by omega,fun _=>?_⟩)
    refine⟨_,_,rfl,rfl,⟨k+1,by omega,?_⟩,?_⟩
    ·rw [show ag (1+(k:Int))=1+k by omega,step (XZ _ k (by omega)) (hT _)];rfl
    ·simp only [ah];omega
   have qZ:k=c - 7:=by omega
   subst qZ;rw [←e1,←e2]
   repeat (refine⟨by omega,fun _=>?_⟩)
   refine⟨_,jF (bZ T) (bf T) CL dH,?_⟩;rintro x hs ⟨v1,rfl,rfl⟩;refine⟨v1,(bN (bZ T) (bf T):Nat),fun j=>(dx (bZ T) (bf T) j:Nat),rfl,rfl,?_⟩;exact fin _ (by unfold hlen;omega) (by unfold hlen;omega)
  ·have c8:c<8:=by omega
   have c0:nc T=0:=by unfold nc;rw [if_pos (by omega)]
   have e2:bf T=c:=by unfold bf;rw [if_pos (by omega),hc]
   refine⟨fun hs=>by omega,fun hs b1=>?_⟩;refine⟨fun e=>e.i=[0,(a:Int)],fun _=>0,⟨_,_,rfl,rfl,rfl⟩,?_⟩;rintro y1 y2 hx;simp only [ae8,and_true]at hx;obtain⟨rfl,rfl⟩:=hx;refine⟨fun bU=>absurd bU (by omega),fun iH=>?_⟩;refine⟨fun e=>e.i=[0,(c:Int)],fun _=>0,⟨_,_,rfl,rfl,rfl⟩,?_⟩;rintro z1 z2 hx;simp only [ae8,and_true]at hx;obtain⟨rfl,rfl⟩:=hx;refine⟨fun bU=>absurd bU (by omega),fun iH=>?_⟩;rw [←e1,←e2]
   repeat (refine⟨by omega,fun _=>?_⟩)
   refine⟨_,jF (bZ T) (bf T) CL dH,?_⟩;rintro x hs ⟨v1,rfl,rfl⟩;refine⟨v1,(bN (bZ T) (bf T):Nat),fun j=>(dx (bZ T) (bf T) j:Nat),rfl,rfl,?_⟩;exact fin _ (by unfold hlen;omega) (by unfold hlen;omega)
theorem q8{B:List HP}{x:Value}(hx:x.oneCell'=true)(n:Nat)(T:Nat→Nat)(hT: ∀j,T j<256)(h:au B (aB x n T)):aw ae0 24 [x] B fun r hs=>AP n T r∧hs=B:=
 j6 (rJ ⟨x,hx⟩ n T hT) (pK h)
end Go.RX.Fl

namespace Go.RX.Fn
open Go.RX Go.RX.Fe Go.RX.Fg Go.RX.Fi Go.RX.Fj Go.RX.Fk Go.RX.Fl Go.RX.Fm
def cL(a:Nat):List bV:=[⟨.int .u64,1,.aL a⟩]
def wL(ck:Ck)(h:List Ck):List Ck:=
 match h.reverse.findIdx? (fun | .bC .. =>true | _=>false)with
 | some i=>(h.reverse.set i ck).reverse
 | none=>[]
def B8(cs:List SV):List Ck→List Ck
 | []=>[]
 | .row b w x::r=>if SV.nL x=8 then .row b w cs::r else .row b w x::B8 cs r
 | c::r=>c::B8 cs r
def WU:List SV→List Ck→SV
 | [.int _ (.lit n)],_=> .int .u64 (.lit (2^n.toNat))
 | _,_=> .undef
def WV:bz:={use:=fun _ _=>[],val:=fun _=> .undef,new:=fun _ _=>[],valOf:=some WU}
def four:bz:={use:=fun _ _=>[],inc:={i:=1},val:=fun c=> .int .u64 (.var c.i),new:=fun _ _=>[]}
def ZG(n:E):bz:={use:=fun az hp=>roots hp az,inc:={v:=1,a:=1},val:=fun c=> .vv c.v,new:=fun c h=>h++[.bC true c.v 23 1 n (cL c.a)]}
def cq(f:Nat):Option bz:=
 match f with
 | 158=>some WV
 | 161=>some four
 | 162=>some {use:=fun az hp=>roots hp az,inc:={v:=1,a:=1},val:=fun c=> .vv c.v,new:=fun c _=>[.bC true c.v 23 1 (.lit 8) (cL c.a)]}
 | 157=>some (ZG (.lit 80))
 | 159=>some eU
 | 145=>some (makes fun _ _=> .lit 32)
 | 128=>some (makes fun _ _=> .lit 32)
 | 129=>some (makes fun _ _=> .lit 64)
 | _=>none
def loops(f id:Nat):Option jf:=
 match f,id with
 | 158,0=>some {inc:={i:=2},aT:=fun c=>[(3,.int .u64 (.var c.i)),(4,.int .i64 (.var (c.i+1)))],hp:=fun _ h=>h}
 | 145,2=>some {inc:={i:=9},aT:=fun c=>[(11,.int .i64 (.var (c.i+8)))],hp:=fun c h=>B8 (ints .u64 c.i 8) h}
 | 145,4=>some {pre:=[.slot 12 23],inc:={i:=1,v:=1,a:=1},aT:=fun c=>[(13,.int .i64 (.var c.i)),(12,.vv c.v)],hp:=fun c h=>wL (.bC true c.v 23 1 (.var c.i) (cL c.a)) h}
 | 145,14=>some {pre:=[.slot 20 5],inc:={i:=2,v:=1,a:=2},aT:=fun c=>[(21,.int .i64 (.var c.i)),(20,.vv c.v)],hp:=fun c h=>B8 [.cE .u64 8 (.aL (c.a+1))] (wL (.bC true c.v 5 1 (.var (c.i+1)) (cB c.a)) h)}
 | 145,8=>some {inc:={i:=1,v:=1,a:=1},aT:=fun c=>[(16,.int .i64 (.var c.i)),(12,.vv c.v)],hp:=fun c h=>wL (.bC true c.v 23 1 (.var c.i) (cL c.a)) h}
 | 145,10=>some {inc:={i:=1,v:=1,a:=1},aT:=fun c=>[(18,.int .i64 (.var c.i)),(17,.vv c.v)],hp:=fun c h=>wL (.bC true c.v 23 1 (.lit 8) (cL c.a)) h}
 | 159,0=>some {back:=[.swap 5 1],inc:={i:=1,a:=1,v:=1},aT:=fun c=>[(5,.vv c.v)],hp:=fun c h=>mE 1 c.v (.var c.i) c.a h}
 | 129,0=>some {back:=[.swap 7 1],inc:={i:=1,a:=1,v:=1},aT:=fun c=>[(7,.vv c.v)],hp:=fun c h=>mE 1 c.v (.var c.i) c.a h}
 | 129,2=>some {inc:={i:=1,a:=1},aT:=fun c=>[(8,.int .i64 (.var c.i))],hp:=fun c h=>oB 1 c.a h}
 | _,_=>none
end Go.RX.Fn
