/- Frames. -/
import Derived.Test.YtmgbbbmdbpbeeaaM45
open Classical renaming not_not → adJ
open Go.IntKind renaming wrap → ae
open Go.Proofs.Try renaming prog → adE
open Int renaming toNat → ag
open List renaming getD_cons_zero → ah
open List.cons renaming injEq → adF
open Nat renaming lt_of_lt_of_le → adI, mod_eq_of_lt → adQ
namespace Go.RX.Fl
open Go Go.RX Go.Proofs Go.RX.Sh Go.RX.Fg Go.RX.Fi Go.RX.Fj Go.RX.Fk Go.Hd Go.Gh Go.Gc Go.Ae Go.RX.Fe Go.Se
def oM(n:Nat):Nat:=if n=0 then 1 else dg n
theorem VD(n i:Nat)(hn:n<18446744073709551616)(h0:n/256^i=0)(h1:n/256^(i - 1)≠0)(hi:1≤i):dg n=i:=by
 have i8:i≤8:=by
  refine Classical.byContradiction fun h=>h1 ?_
  refine Nat.div_eq_of_lt (adI hn ?_);exact Nat.le_trans (by decide:18446744073709551616≤256^8) (Nat.pow_le_pow_right (by decide) (by omega))
 have n0:n≠0:=fun h=>h1 (by rw [h,Nat.zero_div])
 unfold dg;rw [if_neg n0]
 match i,hi,i8 with
 | 1,_,_=>simp only [Nat.reducePow,Nat.reduceSub]at h0 h1;rw [if_pos (by omega)]
 | 2,_,_=>simp only [Nat.reducePow,Nat.reduceSub]at h0 h1;rw [if_neg (by omega),if_pos (by omega)]
 | 3,_,_=>simp only [Nat.reducePow,Nat.reduceSub]at h0 h1;rw [if_neg (by omega),if_neg (by omega),if_pos (by omega)]
 | 4,_,_=>simp only [Nat.reducePow,Nat.reduceSub]at h0 h1;rw [if_neg (by omega),if_neg (by omega),if_neg (by omega),if_pos (by omega)]
 | 5,_,_=>simp only [Nat.reducePow,Nat.reduceSub]at h0 h1;rw [if_neg (by omega),if_neg (by omega),if_neg (by omega),if_neg (by omega),if_pos (by omega)]
 | 6,_,_=>simp only [Nat.reducePow,Nat.reduceSub]at h0 h1;rw [if_neg (by omega),if_neg (by omega),if_neg (by omega),if_neg (by omega),if_neg (by omega),if_pos (by omega)]
 | 7,_,_=>simp only [Nat.reducePow,Nat.reduceSub]at h0 h1;rw [if_neg (by omega),if_neg (by omega),if_neg (by omega),if_neg (by omega),if_neg (by omega),if_neg (by omega),if_pos (by omega)]
 | 8,_,_=>simp only [Nat.reducePow,Nat.reduceSub]at h0 h1;rw [if_neg (by omega),if_neg (by omega),if_neg (by omega),if_neg (by omega),if_neg (by omega),if_neg (by omega),if_neg (by omega)]
 | i+9,_,h=>exact absurd h (by omega)
theorem S7(n i:Nat)(hn:n<18446744073709551616)(h0:n/256^i=0)(h1:i=1∨n/256^(i - 1)≠0)(hi:1≤i):oM n=i:=by
 unfold oM;by_cases n0:n=0
 ·rw [if_pos n0];rcases h1 with h | h
  ·exact h.symm
  ·exact absurd (by rw [n0,Nat.zero_div]) h
 ·rw [if_neg n0];refine VD n i hn h0 ?_ hi;rcases h1 with rfl | h
  ·rw [Nat.sub_self,Nat.pow_zero,Nat.div_one];exact n0
  ·exact h
theorem TE{n:Nat}(h: ¬n<8):hb n=oM n:=by
 unfold hb oM;rw [if_neg h,if_neg (by omega)]
theorem Ng(n:Nat):oM n≤8:=by
 unfold oM;split
 ·decide
 ·exact IA n
theorem vC(n:Nat)(hn:n<18446744073709551616):ar adE 21 [.int .u64 (n:Int)] [] fun r hs=> ∃o:V1,r=o.v∧hs=[al true o (oM n) (be (oM n) n)]:=by
 refine Ko _ (n:Int) ?_;unfold AW;intro b0 v0;rw [VA hn,VB];refine⟨fun e=> ∃i:Nat,1≤i∧i≤8∧(i=1∨n/256^(i - 1)≠0)∧e.i=[((n/256^i:Nat):Int),(i:Int)]∧∀j,j<i→(e.a.getD 0 fun _=>0) j=(be i n j:Nat),fun e=>(e.i.getD 0 0).toNat,⟨v0,_,_,_,rfl,rfl,rfl,rfl,fun _ _=>rfl,1,by omega,by omega,.inl rfl,?_,?_⟩,?_⟩
 ·rw [Nat.pow_one];rfl
 ·intro j hj;simp only [ah];unfold be;rw [show 1 - 1 - j=0 by omega,Nat.pow_zero,Nat.div_one]
 rintro v1 x1 x2 A0 ⟨i,FP,ZM,ns,hx,hA⟩;simp only [adF,and_true]at hx;obtain⟨rfl,rfl⟩:=hx;simp only [ah]at hA;have hq:n/256^i<2^64:=Nat.lt_of_le_of_lt (Nat.div_le_self _ _) hn;have hd:n/256^i/256=n/256^(i+1):=by rw [Nat.div_div_eq_div_mul,←Nat.pow_succ]
 refine⟨fun bP b1=>?_,fun ig=>?_⟩
 ·have dR:n/256^i≠0:=by omega
  have i7:i≤7:=by
   refine Classical.byContradiction fun h=>dR ?_
   refine Nat.div_eq_of_lt (adI hn ?_);exact Nat.le_trans (by decide:18446744073709551616≤256^8) (Nat.pow_le_pow_right (by decide) (by omega))
  rw [VA hq,VB,hd];refine⟨by omega,fun _=>⟨by omega,fun _=>⟨by omega,fun _ v2=>?_⟩⟩⟩;refine⟨v2,_,_,_,rfl,rfl,rfl,rfl,fun _ _=>rfl,⟨i+1,by omega,by omega,.inr (by rw [Nat.add_sub_cancel];exact dR),?_,?_⟩,?_⟩
  ·rw [show(1:Int)+(i:Int)=((i+1:Nat):Int) by omega]
  ·intro j hj;simp only [ah];show aA (fun _=>((n/256^i%256:Nat):Int)) 1 (ag (i:Int)) A0 j=_;rw [Int.toNat_natCast];unfold aA;by_cases c:j=0
   ·subst c;rw [if_neg (by omega)];unfold be;rw [show i+1 - 1 - 0=i by omega]
   ·rw [if_pos (by omega),hA (j - 1) (by omega)];unfold be;rw [show i - 1 - (j - 1)=i+1 - 1 - j by omega]
  ·simp only [ah];have:n/256^(i+1)<n/256^i:=by
    rw [←hd];exact Nat.div_lt_self (Nat.pos_of_ne_zero dR) (by decide)
   omega
 ·have h0:n/256^i=0:=Nat.eq_zero_of_not_pos fun h=>ig (Int.ofNat_lt.2 h)
  have e:=S7 n i hn h0 ns FP;refine⟨v1,rfl,?_⟩;unfold al;dsimp only [bo,bi,bn];rw [e,Int.toNat_natCast,cm hA]
theorem uf(aM aP:Nat)(hk:aM<18446744073709551616)(hc:aP<18446744073709551616):
  ar adE 9 [.agg #[.int .u64 (aM:Int),.int .u64 (aP:Int)]] [] fun r hs=> ∃o:V1,r=o.v∧hs=[al true o (aY aM aP) (eI aM aP)]:=by
 refine Qk _ (aM:Int) (aP:Int) ?_;unfold IF;intro b0;refine⟨_,vC aM hk,?_⟩;rintro x hs ⟨v0,rfl,rfl⟩;refine⟨v0,(oM aM:Nat),fun j=>(be (oM aM) aM j:Nat),rfl,rfl,?_⟩;refine⟨_,vC aP hc,?_⟩;rintro x hs ⟨v1,rfl,rfl⟩;refine⟨v1,(oM aP:Nat),fun j=>(be (oM aP) aP j:Nat),rfl,rfl,?_⟩;have d0:=Ng aM;have d1:=Ng aP;have fin: ∀(o:V1) (x:Int) (n m:Nat) (F G:Nat→Int),ae .u8 x=((jE aM*16+jE aP:Nat):Int)→n=hb aM→m=hb aP→(∀j,j<n→F j=(be (hb aM) aM j:Nat))→(∀j,j<m→G j=(be (hb aP) aP j:Nat))→
   [au true 5 1 o.v (1+n+m) (aK (1+n+m) [aJ .u8 1 (aA (aA (fun _=>ae .u8 x) 1 n F) (1+n) m G)])]=[al true o (aY aM aP) (eI aM aP)]:=by
  intro o x n m F G hx hn hm hF hG;subst hn;subst hm;unfold al aY;congr 2;refine cm fun j hj=>?_
  unfold aA eI;by_cases c0:j=0
  ·rw [if_neg (by omega),if_neg (by omega),if_pos c0,hx]
  ·by_cases c1:j<1+hb aM
   ·rw [if_neg (by omega),if_pos (by omega),if_neg c0,if_pos c1,hF _ (by omega)]
   ·rw [if_pos (by omega),if_neg c0,if_neg c1,hG _ (by omega)]
 have w8: ∀a:Nat,a<256→ae .u8 (a:Int)=(a:Int):=fun a h=>by rw [wrap_u8,adQ h]
 refine⟨fun hk8=>?_,fun hk8=>?_⟩
 ·have n1:jE aM=aM:=by unfold jE;rw [if_pos (by omega)]
  have b1:hb aM=0:=f_ (by omega)
  iterate 4 refine⟨by omega,fun _=>?_⟩
  refine⟨fun Yn=>?_,fun Yn=>?_⟩
  ·have n2:jE aP=aP:=by unfold jE;rw [if_pos (by omega)]
   have b2:hb aP=0:=f_ (by omega)
   iterate 3 refine⟨by omega,fun _=>?_⟩
   refine⟨by omega,fun _ b3 v2 v3=>⟨v3,rfl,?_⟩⟩;refine fin v3 _ 0 0 _ _ ?_ b1.symm b2.symm (fun j hj=>absurd hj (by omega)) (fun j hj=>absurd hj (by omega));rw [show(16:Int)*(aM:Int)+(aP:Int)=((jE aM*16+jE aP:Nat):Int) by omega];exact w8 _ (by omega)
  ·have n2:jE aP=7+oM aP:=by
    have:=TE (n:=aP) (by omega);unfold jE;rw [if_neg (by omega),←this];unfold hb;rw [if_neg (by omega)]
   have b2:hb aP=oM aP:=TE (by omega)
   iterate 6 refine⟨by omega,fun _=>?_⟩
   refine⟨by omega,fun _ b3 v2=>⟨by omega,fun _ v3=>⟨v3,rfl,?_⟩⟩⟩;have:=fin v3 (16*(aM:Int)+8+((oM aP:Nat):Int) - 1) 0 (oM aP) (fun _=>0) (fun j=>((be (oM aP) aP j:Nat):Int)) ?_ b1.symm b2.symm (fun j hj=>absurd hj (by omega)) (fun j hj=>by rw [b2])
   ·dsimp only [bo,bi,bn];rw [show ag ((1:Int)+((oM aP:Nat):Int))=1+0+oM aP by omega];exact this
   ·rw [show(16:Int)*(aM:Int)+8+((oM aP:Nat):Int) - 1=((jE aM*16+jE aP:Nat):Int) by omega];exact w8 _ (by omega)
 ·have n1:jE aM=7+oM aM:=by
   have:=TE (n:=aM) (by omega);unfold jE;rw [if_neg (by omega),←this];unfold hb;rw [if_neg (by omega)]
  have b1:hb aM=oM aM:=TE (by omega);have t1:ag ((1:Int)+((oM aM:Nat):Int))=1+oM aM:=by omega
  rw [t1]
  iterate 7 refine⟨by omega,fun _=>?_⟩
  refine⟨fun Yn=>?_,fun Yn=>?_⟩
  ·have n2:jE aP=aP:=by unfold jE;rw [if_pos (by omega)]
   have b2:hb aP=0:=f_ (by omega)
   iterate 3 refine⟨by omega,fun _=>?_⟩
   refine⟨by omega,fun _ b3=>⟨by omega,fun _ v2=>⟨by omega,fun _ v3=>⟨v3,rfl,?_⟩⟩⟩⟩;refine fin v3 _ (oM aM) 0 _ _ ?_ b1.symm b2.symm (fun j hj=>by rw [b1]) (fun j hj=>absurd hj (by omega));rw [show(16:Int)*(8+((oM aM:Nat):Int) - 1)+(aP:Int)=((jE aM*16+jE aP:Nat):Int) by omega];exact w8 _ (by omega)
  ·have n2:jE aP=7+oM aP:=by
    have:=TE (n:=aP) (by omega);unfold jE;rw [if_neg (by omega),←this];unfold hb;rw [if_neg (by omega)]
   have b2:hb aP=oM aP:=TE (by omega)
   iterate 6 refine⟨by omega,fun _=>?_⟩
   refine⟨by omega,fun _ b3=>⟨by omega,fun _ v2=>⟨by omega,fun _=>⟨by omega,fun _ v3=>⟨v3,rfl,?_⟩⟩⟩⟩⟩;dsimp only [bo,bi,bn];rw [show ag ((1:Int)+((oM aM:Nat):Int)+((oM aP:Nat):Int))=1+oM aM+oM aP by omega];refine fin v3 _ (oM aM) (oM aP) _ _ ?_ b1.symm b2.symm (fun j hj=>by rw [b1]) (fun j hj=>by rw [b2]);rw [show(16:Int)*(8+((oM aM:Nat):Int) - 1)+8+((oM aP:Nat):Int) - 1=((jE aM*16+jE aP:Nat):Int) by omega];exact w8 _ (by omega)
theorem qh{B:List HP}(aM aP:Nat)(hk:aM<18446744073709551616)(hc:aP<18446744073709551616):ar adE 9 [.agg #[.int .u64 (aM:Int),.int .u64 (aP:Int)]] B fun r hs=> ∃o:V1,r=o.v∧hs=B++[al true o (aY aM aP) (eI aM aP)]:=
 j5 (uf aM aP hk hc) (by simp)
end Go.RX.Fl

namespace Go.Hd
open Go.Gh Go.Se Go.RX.Sh
theorem AX(n:Nat)(hn:n<18446744073709551616):n<256^dg n∧(n≠0→256^(dg n - 1)≤n):=by
 by_cases h0:n=0
 ·subst h0;exact⟨by decide,fun h=>absurd rfl h⟩
 by_cases h1:n<256
 ·have:dg n=1:=by unfold dg;rw [if_neg h0,if_pos h1]
  rw [this];exact⟨by omega,fun _=>by omega⟩
 by_cases h2:n<65536
 ·have:dg n=2:=by unfold dg;rw [if_neg h0,if_neg h1,if_pos h2]
  rw [this];exact⟨by omega,fun _=>by omega⟩
 by_cases h3:n<16777216
 ·have:dg n=3:=by unfold dg;rw [if_neg h0,if_neg h1,if_neg h2,if_pos h3]
  rw [this];exact⟨by omega,fun _=>by omega⟩
 by_cases h4:n<4294967296
 ·have:dg n=4:=by unfold dg;rw [if_neg h0,if_neg h1,if_neg h2,if_neg h3,if_pos h4]
  rw [this];exact⟨by omega,fun _=>by omega⟩
 by_cases h5:n<1099511627776
 ·have:dg n=5:=by unfold dg;rw [if_neg h0,if_neg h1,if_neg h2,if_neg h3,if_neg h4,if_pos h5]
  rw [this];exact⟨by omega,fun _=>by omega⟩
 by_cases h6:n<281474976710656
 ·have:dg n=6:=by unfold dg;rw [if_neg h0,if_neg h1,if_neg h2,if_neg h3,if_neg h4,if_neg h5,if_pos h6]
  rw [this];exact⟨by omega,fun _=>by omega⟩
 by_cases h7:n<72057594037927936
 ·have:dg n=7:=by unfold dg;rw [if_neg h0,if_neg h1,if_neg h2,if_neg h3,if_neg h4,if_neg h5,if_neg h6,if_pos h7]
  rw [this];exact⟨by omega,fun _=>by omega⟩
 ·have:dg n=8:=by unfold dg;rw [if_neg h0,if_neg h1,if_neg h2,if_neg h3,if_neg h4,if_neg h5,if_neg h6,if_neg h7]
  rw [this];exact⟨by omega,fun _=>by omega⟩
theorem qi{f g:Nat→Nat}: ∀k,(∀j,j<k→f j=g j)→sJ f k=sJ g k
 | 0,_=>rfl
 | k+1,h=>by
  rw [sJ,sJ,qi k fun j hj=>h j (by omega),h k (by omega)]
theorem Hc(n:Nat): ∀k,sJ (be k n) k=n%256^k
 | 0=>by rw [Nat.pow_zero,Nat.mod_one];rfl
 | k+1=>by
  have h:=Hc (n/256) k;have hc: ∀j,j<k→be (k+1) n j=be k (n/256) j:=by
   intro j hj;unfold be;rw [Nat.div_div_eq_div_mul,show k+1 - 1 - j=(k - 1 - j)+1 by omega,Nat.pow_succ,Nat.mul_comm 256]
  rw [sJ,qi k hc,h];have h2:be (k+1) n k=n%256:=by
   unfold be;rw [show k+1 - 1 - k=0 by omega,Nat.pow_zero,Nat.div_one]
  rw [h2,Nat.pow_succ,Nat.mul_comm (256^k) 256,Nat.mod_mul];omega
theorem CF{n:Nat}(h8: ¬n<8):jE n=7+hb n∧hb n=dg n∧0<hb n:=by
 have:=G3 (n:=n) (by omega);unfold jE hb;rw [if_neg h8,if_neg h8];exact⟨rfl,rfl,this⟩
theorem qj{n:Nat}(h8:n<8):jE n=n:=by unfold jE;rw [if_pos h8]
theorem mV{T:Nat→Nat}{aM aP:Nat}(hk:aM<18446744073709551616)(hc:aP<18446744073709551616)(h: ∀j,j<aY aM aP→T j=eI aM aP j):
  nk T=hb aM∧nc T=hb aP∧fZ T=aM∧bM T=aP:=by
 have h0:T 0=jE aM*16+jE aP:=by
  rw [h 0 (by unfold aY;omega)];unfold eI;rw [if_pos rfl]
 have n1:=uc aM;have n2:=uc aP;have d1:T 0/16=jE aM:=by omega
 have d2:T 0%16=jE aP:=by omega
 have e1:nk T=hb aM:=by
  unfold nk;rw [d1];by_cases c:aM<8
  ·rw [qj c,if_pos c,f_ c]
  ·obtain⟨a,_,b⟩:=CF c;rw [a,if_neg (by omega)];omega
 have e2:nc T=hb aP:=by
  unfold nc;rw [d2];by_cases c:aP<8
  ·rw [qj c,if_pos c,f_ c]
  ·obtain⟨a,_,b⟩:=CF c;rw [a,if_neg (by omega)];omega
 refine⟨e1,e2,?_,?_⟩
 ·unfold fZ;rw [d1];by_cases c:aM<8
  ·rw [qj c,if_pos c]
  ·obtain⟨a,b,e⟩:=CF c;rw [if_neg (by omega),e1,qi (g:=be (hb aM) aM) _ fun j hj=>?_,Hc,b,adQ (AX aM hk).1];rw [h (1+j) (by unfold aY;omega)];unfold eI;rw [if_neg (by omega),if_pos (by omega),Nat.add_sub_cancel_left]
 ·unfold bM;rw [d2];by_cases c:aP<8
  ·rw [qj c,if_pos c]
  ·obtain⟨a,b,e⟩:=CF c;rw [if_neg (by omega),e1,e2,qi (g:=be (hb aP) aP) _ fun j hj=>?_,Hc,b,adQ (AX aP hc).1];rw [h (1+hb aM+j) (by unfold aY;omega)];unfold eI;rw [if_neg (by omega),if_neg (by omega),Nat.add_sub_cancel_left]
end Go.Hd
namespace Go.Se
open Go.Hd Go.Gh Go.Gc Go.Ae Go.RX Go.RX.Sh Go.RX.Fk Go.RX.Fi
theorem ng{s:Nat}{K S:Nat→Nat}{aM aP na:Nat}{A:Nat→Nat}{nt:Nat}{T:Nat→Nat}(hk:aM<18446744073709551616)(hc:aP<18446744073709551616):
  fZ (bR s K S aM aP na A nt T)=aM∧bM (bR s K S aM aP na A nt T)=aP∧hlen (bR s K S aM aP na A nt T)=aY aM aP∧∀m,aY aM aP≤m→yG m (bR s K S aM aP na A nt T):=by
 obtain⟨a,b,c,d⟩:=mV (T:=bR s K S aM aP na A nt T) hk hc fun j hj=>by unfold bR ey;rw [if_pos hj]
 refine⟨c,d,by unfold hlen aY;rw [a,b],fun m hm=>⟨by unfold aY at hm;rw [a,b];exact hm,by rw [c,a],by rw [d,b]⟩⟩
theorem ob{n:Nat}{K N:Nat→Nat}{n1 n2:Nat}{A A' T T':Nat→Nat}(hA: ∀j,j<n1→A j=A' j)(hT: ∀j,j<n2→T j=T' j):jl n K N n1 A n2 T=jl n K N n1 A' n2 T':=by
 have:vX n1 A n2 T=vX n1 A' n2 T':=by
  funext j;unfold vX;split
  ·rename_i c;exact hA j c
  split
  ·rfl
  split
  ·exact hT _ (by omega)
  ·rfl
 unfold jl;rw [this]
theorem Kp{s:Nat}(_:isS s){K N A A':Nat→Nat}{na nt:Nat}{T F:Nat→Nat}(hA: ∀j,j<na→A j=A' j)(hF: ∀j,j<nt+bw s→F j=oG s K N na A nt T j):Kl s K N na A' (nt+bw s) F:=by
 refine⟨by omega,?_⟩;by_cases h4:4≤s
 ·have ht:bw s=16:=by
   unfold bw;rw [if_neg (by omega),if_neg (by omega),if_neg (by omega)]
  rw [if_pos h4];intro j hj;rw [ht]at hF ⊢;rw [Nat.add_sub_cancel];have hb: ∀i,i<nt→F i=df (kR s) K N T i:=by
   intro i hi;rw [hF i (by omega)];unfold oG iY;rw [if_pos h4,if_pos hi]
  rw [hF (nt+j) (by omega),ob (A:=A') (A':=A) (T:=F) (T':=df (kR s) K N T) (fun i hi=>(hA i hi).symm) hb];unfold oG iY;rw [if_pos h4,if_neg (by omega),Nat.add_sub_cancel_left]
 ·rw [if_neg h4];intro j hj;rw [Nat.add_sub_cancel];have hb: ∀i,i<nt→F i=iC s K N T i:=by
   intro i hi;rw [hF i (by omega)];unfold oG ey;rw [if_neg h4,if_pos hi]
  rw [hF (nt+j) (by omega),E3 (A:=A') (A':=A) (Y:=F) (Y':=iC s K N T) (fun i hi=>(hA i hi).symm) hb];unfold oG;rw [if_neg h4,bD]
theorem E8{s:Nat}(gj:isS s){K S:Nat→Nat}{aM aP na:Nat}{A:Nat→Nat}{nt:Nat}{T:Nat→Nat}(hk:aM<18446744073709551616)(hc:aP<18446744073709551616):
  gP s K S na A (aY aM aP+(nt+bw s)) (bR s K S aM aP na A nt T):=by
 obtain⟨a,b,c,_⟩:=ng (s:=s) (K:=K) (S:=S) (na:=na) (A:=A) (nt:=nt) (T:=T) hk hc;unfold gP;rw [b,c,Nat.add_sub_cancel_left];refine Kp (A:=vA aM aP A) (T:=T) gj ?_ ?_
 ·intro j hj;unfold vA oH;rw [c];unfold ey;by_cases e:j<aY aM aP
  ·rw [if_pos e,if_pos e];unfold bR ey;rw [if_pos e]
  ·rw [if_neg e,if_neg e]
 ·intro j hj;unfold cc;rw [c];unfold bR;rw [bD]
theorem yM{s kn aM aP na nt:Nat}{K S A T:Nat→Nat}(h:fN s kn na nt=0)(hk:aM<18446744073709551616)(hc:aP<18446744073709551616)(E9:Nat):
  dK s kn E9 K S na A (aY aM aP+(nt+bw s)) (bR s K S aM aP na A nt T)=if aM=E9 then 0 else 4:=by
 obtain⟨gj,AV,TF,BX⟩:=Qg h;obtain⟨a,b,c,d⟩:=ng (s:=s) (K:=K) (S:=S) (na:=na) (A:=A) (nt:=nt) (T:=T) hk hc;unfold dK;rw [if_neg (adJ.2 gj),if_neg (by omega),if_neg (by omega),if_neg (adJ.2 (d _ (by omega))),a,c];by_cases e:aM=E9
 ·rw [if_neg (by omega),if_neg (by omega),if_pos (E8 gj hk hc),if_pos e]
 ·rw [if_pos e,if_neg e]
end Go.Se

namespace Go.Gh
def nh(f g:Nat→Bool):Prop:= ∀i,i<128→f i=g i
def Zero(f:Nat→Bool):Prop:= ∀i,i<128→f i=false
theorem CG(p q:Nat→Bool)(i:Nat)(hi:i<128):gm p q i=xs 128 (fun a=>p a&&mA a q i):=by
 unfold gm;refine bF fun a _=>?_
 rw [yv a q i hi,←ru];refine bF fun b _=>?_
 cases p a<;>cases q b<;>simp
theorem CH(p q:Nat→Bool)(i:Nat):gm p q i=gm q p i:=by
 unfold gm;rw [wF];refine bF fun b _=>bF fun a _=>?_
 rw [Nat.add_comm,Bool.and_comm (p a) (q b)]
theorem pM{p p':Nat→Bool}(q:Nat→Bool)(h:nh p p')(i:Nat):gm p q i=gm p' q i:=by
 unfold gm;exact bF fun a ha=>bF fun b _=>by rw [h a ha]
theorem Nh(p:Nat→Bool){q q':Nat→Bool}(h:nh q q')(i:Nat):gm p q i=gm p q' i:=by
 unfold gm;exact bF fun a _=>bF fun b hb=>by rw [h b hb]
theorem IG(p p' q:Nat→Bool)(i:Nat):gm (add p p') q i=(gm p q i ^^ gm p' q i):=by
 unfold gm add;rw [←yu];refine bF fun a _=>?_
 rw [←yu];refine bF fun b _=>?_
 cases p a<;>cases p' a<;>cases q b<;>cases R (a+b) i<;>rfl
theorem S8(a:Nat)(q r:Nat→Bool)(i:Nat)(hi:i<128):mA a (gm q r) i=xs 128 (fun b=>xs 128 fun c=>(q b&&r c)&&R (a+b+c) i):=by
 rw [pC a (f:=gm q r) (g:=fun i=>xs 128 fun b=>q b&&mA b r i) (fun i hi=>CG q r i hi) i hi,Ch a 128 q (fun b=>mA b r) i];refine bF fun b _=>?_
 rw [sH,yv (a+b) r i hi,←ru];refine bF fun c _=>?_
 cases q b<;>cases r c<;>simp
theorem E_(p q r:Nat→Bool)(i:Nat)(hi:i<128):gm p (gm q r) i=xs 128 (fun a=>xs 128 fun b=>xs 128 fun c=>((p a&&q b)&&r c)&&R (a+b+c) i):=by
 rw [CG _ _ i hi];refine bF fun a _=>?_
 rw [S8 a q r i hi,←ru];refine bF fun b _=>?_
 rw [←ru];refine bF fun c _=>?_
 cases p a<;>cases q b<;>cases r c<;>simp
theorem Fa(p q r:Nat→Bool)(i:Nat)(hi:i<128):gm (gm p q) r i=gm p (gm q r) i:=by
 rw [CH (gm p q) r,E_ r p q i hi,E_ p q r i hi,wF];refine bF fun a _=>?_
 rw [wF];refine bF fun b _=>bF fun c _=>?_
 rw [show c+a+b=a+b+c by omega];cases p a<;>cases q b<;>cases r c<;>rfl
theorem S9(n:Nat)(g:Nat→Nat→Bool)(h: ∀a b,g a b=g b a):xs n (fun a=>xs n (g a))=xs n fun a=>g a a:=by
 have key: ∀n m,xs n (fun a=>xs (m+1) (g a))=(xs n (fun a=>xs m (g a)) ^^ xs n (fun a=>g a m)):=fun n m=>by rw [←yu];rfl
 induction n with
 | zero=>rfl
 | succ n ih=>
  rw [xs,key,ih,xs,xs];have:xs n (g n)=xs n (fun a=>g a n):=bF fun a _=>h n a
  rw [this];cases xs n (fun a=>g a a)<;>cases xs n (fun a=>g a n)<;>cases g n n<;>rfl
theorem S_(f:Nat→Bool)(i:Nat):gm f f i=xs 128 (fun a=>f a&&R (a+a) i):=by
 unfold gm;rw [S9 128 (fun a b=>(f a&&f b)&&R (a+b) i) (fun a b=>by rw [Nat.add_comm,Bool.and_comm (f a)])];exact bF fun a _=>by cases f a<;>rfl
def sN:Nat:=48611766702991209068831621643639680420
def s(i:Nat):Bool:=sN.testBit i
def rt(k:Nat):Nat→Bool:=if k%2=0 then R (k/2)else mA (k/2) s
theorem VE: ∀i:Fin 128,R 64 i.val=(R 0 i.val ^^ s i.val ^^ R 1 i.val ^^ mA 3 s i.val):=by decide+kernel
theorem VF: ∀i:Fin 128,mA 64 s i.val=(s i.val ^^ R 1 i.val ^^ mA 1 s i.val ^^ R 4 i.val):=by decide+kernel
def root(f:Nat→Bool):Nat→Bool:=fun i=>xs 128 fun k=>f k&&rt k i
theorem Ql(k i:Nat)(hi:i<128):rt (k+128) i=(rt k i ^^ rt (k+1) i ^^ rt (k+2) i ^^ rt (k+7) i):=by
 unfold rt;by_cases h:k%2=0
 ·have h1:nh (R 64) (add (add (add (R 0) s) (R 1)) (mA 3 s)):=fun i hi=>VE ⟨i,hi⟩
  have:=pC (k/2) h1 i hi;rw [jK,jK,jK,pD,pD,pD,sH]at this;rw [if_pos (by omega),if_pos h,if_neg (by omega),if_pos (by omega),if_neg (by omega),show(k+128)/2=k/2+64 by omega,show(k+1)/2=k/2 by omega,show(k+2)/2=k/2+1 by omega,show(k+7)/2=k/2+3 by omega];exact this
 ·have h1:nh (mA 64 s) (add (add (add s (R 1)) (mA 1 s)) (R 4)):=fun i hi=>VF ⟨i,hi⟩
  have:=pC (k/2) h1 i hi;rw [jK,jK,jK,pD,pD,sH,sH]at this;rw [if_neg (by omega),if_neg h,if_pos (by omega),if_neg (by omega),if_pos (by omega),show(k+128)/2=k/2+64 by omega,show(k+1)/2=k/2+1 by omega,show(k+2)/2=k/2+1 by omega,show(k+7)/2=k/2+4 by omega];exact this
theorem yN(f g:Nat→Bool)(i:Nat):root (add f g) i=(root f i ^^ root g i):=by
 unfold root add;rw [←yu];exact bF fun k _=>by cases f k<;>cases g k<;>cases rt k i<;>rfl
theorem AY{f g:Nat→Bool}(h:nh f g)(i:Nat):root f i=root g i:=bF fun k hk=>by rw [h k hk]
theorem Ta(k:Nat): ∀i,i<128→root (R k) i=rt k i:=by
 induction k using Nat.strongRecOn with
 | _ k ih=>
  intro i hi;by_cases hk:k<128
  ·unfold root;rw [SD k hk];have: ∀j,j<128→(e k j&&rt j i)=(rt j i&&decide (j=k)):=fun j _=>by unfold e;rw [Bool.and_comm]
   rw [bF this,wG 128 k hk]
  ·obtain⟨m,rfl⟩: ∃m,k=m+128:=⟨k - 128,by omega⟩;have h1:nh (R (m+128)) (add (add (add (R m) (R (m+1))) (R (m+2))) (R (m+7))):=fun i hi=>SE m i hi
   rw [AY h1,yN,yN,yN,ih m (by omega) i hi,ih (m+1) (by omega) i hi,ih (m+2) (by omega) i hi,ih (m+7) (by omega) i hi,Ql m i hi]
theorem Qm(f:Nat→Bool)(i:Nat)(hi:i<128):root (gm f f) i=f i:=by
 rw [AY (f:=gm f f) (g:=fun i=>xs 128 fun a=>f a&&R (a+a) i) (fun i _=>S_ f i)];unfold root;have e1: ∀k,k<128→((xs 128 fun a=>f a&&R (a+a) k)&&rt k i)=xs 128 fun a=>f a&&(R (a+a) k&&rt k i):=by
  intro k _;rw [Bool.and_comm,←ru];exact bF fun a _=>by cases f a<;>cases R (a+a) k<;>cases rt k i<;>rfl
 rw [bF e1,wF,MO f i hi];refine bF fun a _=>?_
 rw [ru];have:=Ta (a+a) i hi;unfold root at this;rw [this];unfold rt;rw [if_pos (by omega),show(a+a)/2=a by omega]
theorem Qn(f:Nat→Bool)(h:Zero (gm f f)):Zero f:=fun i hi=>by
 rw [←Qm f i hi];unfold root;rw [bF (g:=fun _=>false) (fun k hk=>by rw [h k hk];rfl),pB]
def pw(f:Nat→Bool):Nat→(Nat→Bool)
 | 0=>e 0
 | n+1=>gm (pw f n) f
theorem Ni(f:Nat→Bool):nh (gm f (e 0)) f:=fun i hi=>by
 rw [CH,CG _ _ i hi];have: ∀a,a<128→(e 0 a&&mA a f i)=(mA a f i&&decide (a=0)):=fun a _=>by unfold e;rw [Bool.and_comm]
 rw [bF this,wG 128 0 (by omega)];rfl
theorem He(f:Nat→Bool)(a:Nat): ∀b,nh (pw f (a+b)) (gm (pw f a) (pw f b))
 | 0=>fun i hi=>(Ni (pw f a) i hi).symm
 | b+1=>fun i hi=>by
  show gm (pw f (a+b)) f i=_;rw [pM f (He f a b) i,Fa _ _ _ i hi];rfl
theorem Nj(f:Nat→Bool):nh (pw f 1) f:=fun i hi=>by
 show gm (e 0) f i=f i;rw [CH];exact Ni f i hi
theorem Tb(f:Nat→Bool)(m:Nat): ∀k,k=2^m→Zero (pw f k)→Zero f:=by
 induction m with
 | zero=>
  intro k hk h i hi;rw [Nat.pow_zero]at hk;subst hk;rw [←Nj f i hi];exact h i hi
 | succ m ih=>
  intro k hk h;refine ih (2^m) rfl (Qn _ fun i hi=>?_);have yx:2^m+2^m=k:=by rw [hk,Nat.pow_succ];omega
  generalize 2^m=c at yx;subst yx;rw [←He f c c i hi];exact h i hi
theorem Qo(p q:Nat→Bool)(h:Zero p):Zero (gm p q):=fun i _=>by
 rw [pM (p':=fun _=>false) q h i];exact(bF fun a _=>(bF fun b _=>rfl).trans (pB 128)).trans (pB 128)
theorem Qp(f:Nat→Bool)(n:Nat)(h:Zero (pw f n)):Zero f:=by
 have hle:n≤2^n:=Nat.le_of_lt Nat.lt_two_pow_self;obtain⟨d,hd⟩:=Nat.exists_eq_add_of_le hle;refine Tb f n (n+d) hd.symm ?_;exact fun i hi=>(He f n d i hi).trans (Qo _ _ h i hi)
theorem Qq(f:Nat→Bool)(h:Zero (xt f)):Zero f:=by
 have VG:f 127=false:=by
  have:=h 0 (by omega);unfold xt at this;simpa using this
 intro i hi;by_cases mF:i=127
 ·rw [mF];exact VG
 ·have:=h (i+1) (by omega);unfold xt at this;simp only [VG]at this;simpa using this
theorem Fb(f:Nat→Bool): ∀n,Zero (mA n f)→Zero f
 | 0,h=>h
 | n+1,h=>Fb f n (Qq _ h)
end Go.Gh
