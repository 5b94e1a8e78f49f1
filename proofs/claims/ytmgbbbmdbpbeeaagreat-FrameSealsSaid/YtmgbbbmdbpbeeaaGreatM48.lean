/- Headers plainly. -/
import Derived.Test.YtmgbbbmdbpbeeaaGreatM47
import Derived.OpenShut
import Derived.ProofKit
open Array renaming getElem?_eq_some_iff → ae5
open Classical renaming not_not → ae6
open Go.Proofs.Tryz renaming prog → ae0
open List renaming append → aeU, append_eq → afq, getElem?_append_left → ae1, getElem?_append_right → ae2, getElem?_eq_getElem → afA, getElem?_eq_none → afz, mem_cons → afd, mem_cons_of_mem → ae4, mem_cons_self → aeZ, mem_of_getElem? → afr, not_mem_nil → ae9
open Nat renaming mod_eq_of_lt → afp
open Option.some renaming injEq → aeX
namespace Go.Hd
open Go.Gh Go.Se Go.RX.Sh
theorem AU(n:Nat)(hn:n<18446744073709551616):n<256^dg n∧(n≠0→256^(dg n - 1)≤n):=by
 by_cases h0:n=0
 ·subst h0;exact⟨by decide,fun h=>absurd rfl h⟩
 by_cases h1:n<256
 ·have:dg n=1:=by unfold dg;rw [if_neg h0,if_pos h1]
  rw [this];exact⟨by omega,fun _=>by omega⟩
 by_cases h2:n<65536
 ·have:dg n=2:=by unfold dg;rw [if_neg h0,if_neg h1,if_pos h2]
  rw [this];exact⟨by omega,fun _=>by omega⟩
 by_cases h3:n<16777216
 ·have:dg n=3:=by unfold dg;rw [if_neg h0,if_neg h1,if_neg h2,if_pos h3]
  rw [this];exact⟨by omega,fun _=>by omega⟩
 by_cases h4:n<4294967296
 ·have:dg n=4:=by unfold dg;rw [if_neg h0,if_neg h1,if_neg h2,if_neg h3,if_pos h4]
  rw [this];exact⟨by omega,fun _=>by omega⟩
 by_cases h5:n<1099511627776
 ·have:dg n=5:=by unfold dg;rw [if_neg h0,if_neg h1,if_neg h2,if_neg h3,if_neg h4,if_pos h5]
  rw [this];exact⟨by omega,fun _=>by omega⟩
 by_cases h6:n<281474976710656
 ·have:dg n=6:=by unfold dg;rw [if_neg h0,if_neg h1,if_neg h2,if_neg h3,if_neg h4,if_neg h5,if_pos h6]
  rw [this];exact⟨by omega,fun _=>by omega⟩
 by_cases h7:n<72057594037927936
 ·have:dg n=7:=by unfold dg;rw [if_neg h0,if_neg h1,if_neg h2,if_neg h3,if_neg h4,if_neg h5,if_neg h6,if_pos h7]
  rw [this];exact⟨by omega,fun _=>by omega⟩
 ·have:dg n=8:=by unfold dg;rw [if_neg h0,if_neg h1,if_neg h2,if_neg h3,if_neg h4,if_neg h5,if_neg h6,if_neg h7]
  rw [this];exact⟨by omega,fun _=>by omega⟩
theorem qj{f g:Nat→Nat}: ∀k,(∀j,j<k→f j=g j)→mM f k=mM g k
 | 0,_=>rfl
 | k+1,h=>by
  rw [mM,mM,qj k fun j hj=>h j (by omega),h k (by omega)]
theorem G6(n:Nat): ∀k,mM (be k n) k=n%256^k
 | 0=>by rw [Nat.pow_zero,Nat.mod_one];rfl
 | k+1=>by
  have h:=G6 (n/256) k;have hc: ∀j,j<k→be (k+1) n j=be k (n/256) j:=by
   intro j hj;unfold be;rw [Nat.div_div_eq_div_mul,show k+1 - 1 - j=(k - 1 - j)+1 by omega,Nat.pow_succ,Nat.mul_comm 256]
  rw [mM,qj k hc,h];have h2:be (k+1) n k=n%256:=by
   unfold be;rw [show k+1 - 1 - k=0 by omega,Nat.pow_zero,Nat.div_one]
  rw [h2,Nat.pow_succ,Nat.mul_comm (256^k) 256,Nat.mod_mul];omega
theorem Cr{n:Nat}(h8: ¬n<8):hU n=7+hb n∧hb n=dg n∧0<hb n:=by
 have:=GF (n:=n) (by omega);unfold hU hb;rw [if_neg h8,if_neg h8];exact⟨rfl,rfl,this⟩
theorem qk{n:Nat}(h8:n<8):hU n=n:=by unfold hU;rw [if_pos h8]
theorem xu{T:Nat→Nat}{aU aS:Nat}(hk:aU<18446744073709551616)(hc:aS<18446744073709551616)(h: ∀j,j<bN aU aS→T j=dx aU aS j):
  nk T=hb aU∧nc T=hb aS∧bZ T=aU∧bf T=aS:=by
 have h0:T 0=hU aU*16+hU aS:=by
  rw [h 0 (by unfold bN;omega)];unfold dx;rw [if_pos rfl]
 have n1:=pM aU;have n2:=pM aS;have d1:T 0/16=hU aU:=by omega
 have d2:T 0%16=hU aS:=by omega
 have e1:nk T=hb aU:=by
  unfold nk;rw [d1];by_cases c:aU<8
  ·rw [qk c,if_pos c,ey c]
  ·obtain⟨a,_,b⟩:=Cr c;rw [a,if_neg (by omega)];omega
 have e2:nc T=hb aS:=by
  unfold nc;rw [d2];by_cases c:aS<8
  ·rw [qk c,if_pos c,ey c]
  ·obtain⟨a,_,b⟩:=Cr c;rw [a,if_neg (by omega)];omega
 refine⟨e1,e2,?_,?_⟩
 ·unfold bZ;rw [d1];by_cases c:aU<8
  ·rw [qk c,if_pos c]
  ·obtain⟨a,b,e⟩:=Cr c;rw [if_neg (by omega),e1,qj (g:=be (hb aU) aU) _ fun j hj=>?_,G6,b,afp (AU aU hk).1];rw [h (1+j) (by unfold bN;omega)];unfold dx;rw [if_neg (by omega),if_pos (by omega),Nat.add_sub_cancel_left]
 ·unfold bf;rw [d2];by_cases c:aS<8
  ·rw [qk c,if_pos c]
  ·obtain⟨a,b,e⟩:=Cr c;rw [if_neg (by omega),e1,e2,qj (g:=be (hb aS) aS) _ fun j hj=>?_,G6,b,afp (AU aS hc).1];rw [h (1+hb aU+j) (by unfold bN;omega)];unfold dx;rw [if_neg (by omega),if_neg (by omega),Nat.add_sub_cancel_left]
end Go.Hd
namespace Go.Se
open Go.Hd Go.Gh Go.Gc Go.Ae Go.RX Go.RX.Sh Go.RX.Fk Go.RX.Fi
theorem uo{s:Nat}{K S:Nat→Nat}{aU aS na:Nat}{A:Nat→Nat}{nt:Nat}{T:Nat→Nat}(hk:aU<18446744073709551616)(hc:aS<18446744073709551616):
  bZ (eX s K S aU aS na A nt T)=aU∧bf (eX s K S aU aS na A nt T)=aS∧hlen (eX s K S aU aS na A nt T)=bN aU aS∧∀m,bN aU aS≤m→nE m (eX s K S aU aS na A nt T):=by
 obtain⟨a,b,c,d⟩:=xu (T:=eX s K S aU aS na A nt T) hk hc fun j hj=>by unfold eX cl;rw [if_pos hj]
 refine⟨c,d,by unfold hlen bN;rw [a,b],fun m hm=>⟨by unfold bN at hm;rw [a,b];exact hm,by rw [c,a],by rw [d,b]⟩⟩
theorem G7{n:Nat}{K N:Nat→Nat}{n1 n2:Nat}{A A' T T':Nat→Nat}(hA: ∀j,j<n1→A j=A' j)(hT: ∀j,j<n2→T j=T' j):iF n K N n1 A n2 T=iF n K N n1 A' n2 T':=by
 have:y5 n1 A n2 T=y5 n1 A' n2 T':=by
  funext j;unfold y5;split
  ·rename_i c;exact hA j c
  split
  ·rfl
  split
  ·exact hT _ (by omega)
  ·rfl
 unfold iF;rw [this]
theorem KK{s:Nat}(_:isS s){K N A A':Nat→Nat}{na nt:Nat}{T F:Nat→Nat}(hA: ∀j,j<na→A j=A' j)(hF: ∀j,j<nt+aY s→F j=og s K N na A nt T j):w9 s K N na A' (nt+aY s) F:=by
 refine⟨by omega,?_⟩;by_cases h4:4≤s
 ·have ht:aY s=16:=by
   unfold aY;rw [if_neg (by omega),if_neg (by omega),if_neg (by omega)]
  rw [if_pos h4];intro j hj;rw [ht]at hF ⊢;rw [Nat.add_sub_cancel];have hb: ∀i,i<nt→F i=de (lF s) K N T i:=by
   intro i hi;rw [hF i (by omega)];unfold og gE;rw [if_pos h4,if_pos hi]
  rw [hF (nt+j) (by omega),G7 (A:=A') (A':=A) (T:=F) (T':=de (lF s) K N T) (fun i hi=>(hA i hi).symm) hb];unfold og gE;rw [if_pos h4,if_neg (by omega),Nat.add_sub_cancel_left]
 ·rw [if_neg h4];intro j hj;rw [Nat.add_sub_cancel];have hb: ∀i,i<nt→F i=eg s K N T i:=by
   intro i hi;rw [hF i (by omega)];unfold og cl;rw [if_neg h4,if_pos hi]
  rw [hF (nt+j) (by omega),ER (A:=A') (A':=A) (Y:=F) (Y':=eg s K N T) (fun i hi=>(hA i hi).symm) hb];unfold og;rw [if_neg h4,bS]
theorem E6{s:Nat}(fA:isS s){K S:Nat→Nat}{aU aS na:Nat}{A:Nat→Nat}{nt:Nat}{T:Nat→Nat}(hk:aU<18446744073709551616)(hc:aS<18446744073709551616):
  iB s K S na A (bN aU aS+(nt+aY s)) (eX s K S aU aS na A nt T):=by
 obtain⟨a,b,c,_⟩:=uo (s:=s) (K:=K) (S:=S) (na:=na) (A:=A) (nt:=nt) (T:=T) hk hc;unfold iB;rw [b,c,Nat.add_sub_cancel_left];refine KK (A:=BZ aU aS A) (T:=T) fA ?_ ?_
 ·intro j hj;unfold BZ oH;rw [c];unfold cl;by_cases e:j<bN aU aS
  ·rw [if_pos e,if_pos e];unfold eX cl;rw [if_pos e]
  ·rw [if_neg e,if_neg e]
 ·intro j hj;unfold cz;rw [c];unfold eX;rw [bS]
theorem G8{s kn aU aS na nt:Nat}{K S A T:Nat→Nat}(h:eW s kn na nt=0)(hk:aU<18446744073709551616)(hc:aS<18446744073709551616)(E7:Nat):
  cN s kn E7 K S na A (bN aU aS+(nt+aY s)) (eX s K S aU aS na A nt T)=if aU=E7 then 0 else 4:=by
 obtain⟨fA,qZ,hna,FD⟩:=Rg h;obtain⟨a,b,c,d⟩:=uo (s:=s) (K:=K) (S:=S) (na:=na) (A:=A) (nt:=nt) (T:=T) hk hc;unfold cN;rw [if_neg (ae6.2 fA),if_neg (by omega),if_neg (by omega),if_neg (ae6.2 (d _ (by omega))),a,c];by_cases e:aU=E7
 ·rw [if_neg (by omega),if_neg (by omega),if_pos (E6 fA hk hc),if_pos e]
 ·rw [if_pos e,if_neg e]
end Go.Se

namespace Go.RX.Fo
open Go Go.RX Go.Proofs Go.RX.Sh Go.RX.Fg Go.RX.Fi Go.RX.Fj Go.RX.Fk Go.Hd Go.Gh Go.Gc Go.Ae Go.RX.Fe Go.Se
def KL(j:Nat):Nat:=if j=0 then 97 else if j=1 then 98 else if j=2 then 99 else 0
set_option maxHeartbeats 1000000 in
theorem E8:aw ae0 6 [] [] fun r hs=>r= .bool true∧hs=[]:=by
 refine aw.post (p:=fun r _=>r= .bool true) ?_ fun v hs h=>⟨[],bX.sub (List.nil_sublist _),h,rfl⟩
 refine M3 _ ?_;unfold Em;intro v0 b0 b1;have hz: ∀j:Nat,(fun _=>0:Nat→Nat) j<256:=fun _=>(by decide:0<256)
 have ZW: ∀j,KL j<256:=fun j=>by unfold KL;repeat (first | decide | split)
 have h1:=Fm.oZ (B:=[aj true v0 16 fun _=>0,ax b1 false [.int .u8 97,.int .u8 98,.int .u8 99]]) (x0:=v0.v) (x1:= .slice none 0 0) (x2:= .slice (some ⟨b1,0,none⟩) 3 3) v0.one rfl rfl 4 5 7 16 0 3 (fun _=>0) (fun _=>0) (fun _=>0) KL hz hz hz ZW (by decide) (by decide) (au.get 0 rfl) au.nil
  (au.right (A:=[aj true v0 16 fun _=>0]) (au.block (b:=b1) (wr:=false) (n:=3) (m:=3) (A:=fun j=>(KL j:Nat)) (fun _ _=>rfl) (Nat.le_refl _)))
 refine⟨_,h1,?_⟩;rintro x hs ⟨nw,⟨v1,rfl,rfl⟩,rfl⟩;refine⟨v1,(np 4 16 5 7 0 3:Nat),(eW 4 16 0 3:Nat),fun j=>(eX 4 (fun _=>0) (fun _=>0) 5 7 0 (fun _=>0) 3 KL j:Nat),rfl,rfl,?_⟩;intro v2 b2;have h2:=Fm.oZ (B:=[aj true v2 48 fun _=>0]) (x0:=v2.v) (x1:= .slice none 0 0) (x2:= .slice none 0 0) v2.one rfl rfl 3 8 300 48 0 0 (fun _=>0) (fun _=>0) (fun _=>0) (fun _=>0) hz hz hz hz (by decide) (by decide) (au.get 0 rfl) au.nil au.nil;refine⟨_,h2,?_⟩;rintro x hs ⟨nw,⟨v3,rfl,rfl⟩,rfl⟩;refine⟨v3,(np 3 48 8 300 0 0:Nat),(eW 3 48 0 0:Nat),fun j=>(eX 3 (fun _=>0) (fun _=>0) 8 300 0 (fun _=>0) 0 (fun _=>0) j:Nat),rfl,rfl,?_⟩;have c1:eW 4 16 0 3=0:=Fm.s6 (by unfold isS;decide) rfl (by decide) (by decide);have c2:eW 3 48 0 0=0:=Fm.s6 (by unfold isS;decide) rfl (by decide) (by decide);have l1:np 4 16 5 7 0 3=20:=by unfold np;rw [if_pos c1];rfl
 have l2:np 3 48 8 300 0 0=8:=by unfold np;rw [if_pos c2];rfl
 have b87:eX 4 (fun _=>0) (fun _=>0) 5 7 0 (fun _=>0) 3 KL 0=87:=by unfold eX cl;rw [if_pos (by decide)];rfl
 dsimp only;rw [c1,c2,l1,l2,b87];refine⟨by decide,fun _=>⟨by decide,fun _=>⟨by decide,fun _=>⟨by decide,fun _=>⟨fun h=>absurd h (by decide),fun _=>?_⟩⟩⟩⟩⟩;have hF: ∀j,eX 3 (fun _=>0) (fun _=>0) 8 300 0 (fun _=>0) 0 (fun _=>0) j<256:=NL hz hz hz _ _ _ _ _;have o1: ∀E7:Nat,cN 3 48 E7 (fun _=>0) (fun _=>0) 0 (fun _=>0) 8 (eX 3 (fun _=>0) (fun _=>0) 8 300 0 (fun _=>0) 0 (fun _=>0))=if 8=E7 then 0 else 4:=fun E7=>G8 (s:=3) (kn:=48) (aU:=8) (aS:=300) (na:=0) (nt:=0) c2 (by decide) (by decide) E7
 have h3:=fun aU:Nat=>Fm.uG (B:=[aj true v2 48 fun _=>0,aj true v3 8 (eX 3 (fun _=>0) (fun _=>0) 8 300 0 (fun _=>0) 0 (fun _=>0))]) (x0:=v2.v) (x1:= .slice none 0 0) (x2:=v3.v) v2.one rfl v3.one 3 aU 48 0 8 (fun _=>0) (fun _=>0) (fun _=>0) (eX 3 (fun _=>0) (fun _=>0) 8 300 0 (fun _=>0) 0 (fun _=>0)) hz hz hz hF (by decide) (au.get 0 rfl) au.nil (au.get 1 rfl)
 refine⟨_,h3 8,?_⟩;rintro x hs ⟨nw,⟨v4,rfl,rfl⟩,rfl⟩;refine⟨v4,(_:Nat),_,_,fun j=>(_:Nat),rfl,rfl,?_⟩;refine⟨_,h3 9,?_⟩;rintro x hs ⟨nw,⟨v5,rfl,rfl⟩,rfl⟩;refine⟨v5,(_:Nat),_,_,fun j=>(_:Nat),rfl,rfl,?_⟩;have p8:cN 3 48 8 (fun _=>0) (fun _=>0) 0 (fun _=>0) 8 (eX 3 (fun _=>0) (fun _=>0) 8 300 0 (fun _=>0) 0 (fun _=>0))=0:=o1 8;have p9:cN 3 48 9 (fun _=>0) (fun _=>0) 0 (fun _=>0) 8 (eX 3 (fun _=>0) (fun _=>0) 8 300 0 (fun _=>0) 0 (fun _=>0))=4:=o1 9;have ht:=(uo (s:=3) (K:=fun _=>0) (S:=fun _=>0) (aU:=8) (aS:=300) (na:=0) (A:=fun _=>0) (nt:=0) (T:=fun _=>0) (by decide) (by decide)).2.1;unfold uB;rw [if_pos p8,p8,p9,ht];rfl
set_option maxHeartbeats 1000000 in
theorem Ju(s aU aS kn na nt:Nat)(v0 v1 v2:V1)(K S A T:Nat→Nat)(hK: ∀j,K j<256)(hS: ∀j,S j<256)(hA: ∀j,A j<256)(hT: ∀j,T j<256)(oG:aU<18446744073709551616)(jN:aS<18446744073709551616)(FD:nt≤9223372036854775807):
  aw ae0 3 [.agg (.int .u16 (s:Int):: .int .u64 (aU:Int)::v0.v::(aeU (al .u8 12 fun j=>((S j:Nat):Int)) [])).toArray,.int .u64 (aS:Int),v1.v,v2.v] [aj false v0 kn K,aj false v1 na A,aj false v2 nt T] fun v _=>v= .bool true:=by
 refine aw.post (p:=fun r _=>r= .bool true) ?_ fun v hs h=>⟨hs,bX.refl _,h⟩
 refine TC _ (s:Int) (aU:Int) (aS:Int) (kn:Int) (na:Int) (nt:Int) (fun j=>(K j:Nat)) (fun j=>(S j:Nat)) (fun j=>(A j:Nat)) (fun j=>(T j:Nat)) v0 v1 v2 ?_;unfold M4;intro b0;refine⟨_,E8,?_⟩;rintro x hs ⟨rfl,rfl⟩;refine⟨rfl,rfl,?_⟩
 iterate 5 refine⟨by omega,fun _=>?_⟩
 refine⟨fun _=>rfl,fun hl=>?_⟩;refine⟨_,Fm.oZ (B:=[aj false v0 kn K,aj false v1 na A,aj false v2 nt T]) v0.one v1.one v2.one s aU aS kn na nt K S A T hK hS hA hT oG jN (au.get 0 rfl) (au.get 1 rfl) (au.get 2 rfl),?_⟩;rintro x hs ⟨nw,⟨v3,rfl,rfl⟩,rfl⟩;refine⟨v3,(np s kn aU aS na nt:Nat),(eW s kn na nt:Nat),fun j=>(eX s K S aU aS na A nt T j:Nat),rfl,rfl,?_⟩;have br:au [aj false v0 kn K,ax b0 true (.int .u16 (s:Int):: .int .u64 (aU:Int)::v0.v::(aeU (al .u8 12 fun j=>((S j:Nat):Int)) [])),aj false v1 na A,aj false v2 nt T] (aB (.slice (some ⟨b0,3,none⟩) 12 12) 12 S):=by
  have:=au.row (t:=5) (b:=b0) (wr:=true) (lo:=3) (n:=12) (m:=12) (cs:= .int .u16 (s:Int):: .int .u64 (aU:Int)::v0.v::(aeU (al .u8 12 fun j=>((S j:Nat):Int)) [])) (show 3+12≤15 from Nat.le_refl 15) (by decide);refine au.mid (A:=[aj false v0 kn K]) (B:=[ax b0 true (.int .u16 (s:Int):: .int .u64 (aU:Int)::v0.v::(aeU (al .u8 12 fun j=>((S j:Nat):Int)) []))]) (C:=[aj false v1 na A,aj false v2 nt T]) ?_;unfold aB;rw [je];exact this
 refine⟨_,Fl.Co (B:=[aj false v0 kn K,ax b0 true (.int .u16 (s:Int):: .int .u64 (aU:Int)::v0.v::(aeU (al .u8 12 fun j=>((S j:Nat):Int)) [])),aj false v1 na A,aj false v2 nt T]) (x1:= .slice (some ⟨b0,3,none⟩) 12 12) v0.one rfl v1.one v2.one s aU aS kn na nt K S A T hK hS hA hT oG jN (au.get 0 rfl) br (au.get 2 rfl) (au.get 3 rfl),?_⟩;rintro x hs ⟨nw,⟨v4,rfl,rfl⟩,rfl⟩;refine⟨v4,(np s kn aU aS na nt:Nat),(eW s kn na nt:Nat),fun j=>(eX s K S aU aS na A nt T j:Nat),rfl,rfl,?_⟩;refine⟨_,Fm.uG (B:=[aj false v0 kn K,aj false v1 na A,aj false v2 nt T]) v0.one v1.one v2.one s aU kn na nt K S A T hK hS hA hT FD (au.get 0 rfl) (au.get 1 rfl) (au.get 2 rfl),?_⟩;rintro x hs ⟨nw,⟨v5,rfl,rfl⟩,rfl⟩;refine⟨v5,(wY s kn aU K S na A nt T:Nat),(uB s kn aU K S na A nt T:Nat),(cN s kn aU K S na A nt T:Nat),fun j=>(rY s K S T j:Nat),rfl,rfl,?_⟩;refine⟨_,Fl.Cq (B:=[aj false v0 kn K,ax b0 true (.int .u16 (s:Int):: .int .u64 (aU:Int)::v0.v::(aeU (al .u8 12 fun j=>((S j:Nat):Int)) [])),aj false v1 na A,aj false v2 nt T]) (x1:= .slice (some ⟨b0,3,none⟩) 12 12) v0.one rfl v1.one v2.one s aU kn na nt K S A T hK hS hA hT FD (au.get 0 rfl) br (au.get 2 rfl) (au.get 3 rfl),?_⟩;rintro x hs ⟨nw,⟨v6,rfl,rfl⟩,rfl⟩;refine⟨v6,(wY s kn aU K S na A nt T:Nat),(uB s kn aU K S na A nt T:Nat),(cN s kn aU K S na A nt T:Nat),fun j=>(rY s K S T j:Nat),rfl,rfl,?_⟩;simp
end Go.RX.Fo

namespace Go.RX
def E9(P:Program)(g:TypeId→Option (List (Option IntKind))):List Field→Nat→Option (List (Option IntKind))
 | [],_=>some []
 | f::r,off=>match g f.type,E9 P g r (off+P.cellsOf f.type)with
  | some ks,some l=>if f.offset=off∧P.cellsOf f.type=ks.length then some (ks++l)else none
  | _,_=>none
def Sd:Option IntKind→Int→Value
 | some k,n=> .int k n
 | none,n=> .bool (!(n==0))
def N_:Option IntKind→Int→Prop
 | some k,n=>(Lit.int k n).wf=true
 | none,_=>True
def yy(k:Option IntKind)(v:Value):Prop:= ∃n,v=Sd k n∧N_ k n
section
variable {H:Type} {enc:TypeId×Value→H} {P:Program} {w:World} {base:Nat} {spare:Nat→Bool} {held:Bool}
theorem yz{g:TypeId→Option (List (Option IntKind))}{cs:List Value}(hg: ∀t ks uM,g t=some ks→(∃n x,DataW.trod enc P w base spare held n t uM=some x)→∀(j:Nat) k,ks[j]? =some k→∃v,uM[j]? =some v∧yy k v):
  ∀{fs:List Field} {off:Nat} {ks:List (Option IntKind)},E9 P g fs off=some ks→(∀f∈fs,∃n x,DataW.trod enc P w base spare held n f.type ((cs.drop f.offset).take (P.cellsOf f.type))=some x)→
   ∀(j:Nat) k,ks[j]? =some k→∃v,cs[off+j]? =some v∧yy k v
 | [],off,ks,h,_,j,k,hk=>by
  simp only [E9,aeX]at h;subst h;simp at hk
 | f::r,off,ks,h,hf,j,k,hk=>by
  unfold E9 at h;split at h
  ·rename_i k1 l h1 h2;split at h
   ·rename_i hc;obtain⟨rfl,Xy⟩:=hc;cases h;by_cases hj:j<k1.length
    ·rw [ae1 hj]at hk;obtain⟨v,hv,j9⟩:=hg _ _ _ h1 (hf f aeZ) j k hk;refine⟨v,?_,j9⟩;rw [List.getElem?_take]at hv;split at hv
     ·rw [List.getElem?_drop]at hv;exact hv
     ·cases hv
    ·rw [ae2 (by omega)]at hk;obtain⟨v,hv,j9⟩:=yz hg h2 (fun f' Lg=>hf f' (ae4 _ Lg)) _ k hk;refine⟨v,?_,j9⟩;rw [←hv,Xy];congr 1;omega
   ·cases h
  ·cases h
end
def E_(P:Program):Nat→TypeId→Option (List (Option IntKind))
 | 0,_=>none
 | n+1,t=>match P.underlying t with
  | some (.int k)=>some [some k]
  | some .bool=>some [none]
  | some (.struct fs)=>E9 P (E_ P n) fs.toList 0
  | some (.array m e)=>match E_ P n e with
   | some ks=>if P.cellsOf e=ks.length then some (List.replicate m ks).flatten else none
   | none=>none
  | _=>none
section
variable {H:Type} {enc:TypeId×Value→H} {P:Program} {w:World} {base:Nat} {spare:Nat→Bool} {held:Bool}
theorem Sf{ks:List (Option IntKind)}{cs:List Value}: ∀(m off:Nat),(∀i,i<m→∀(j:Nat) k,ks[j]? =some k→∃v,cs[off+i*ks.length+j]? =some v∧yy k v)→
  ∀(j:Nat) k,(List.replicate m ks).flatten[j]? =some k→∃v,cs[off+j]? =some v∧yy k v
 | 0,_,_,j,k,hk=>by simp at hk
 | m+1,off,h,j,k,hk=>by
  rw [List.replicate_succ,List.flatten_cons]at hk;by_cases hj:j<ks.length
  ·rw [ae1 hj]at hk;simpa using h 0 (by omega) j k hk
  ·rw [ae2 (by omega)]at hk;obtain⟨v,hv,j9⟩:=Sf m (off+ks.length) (fun i hi j k hk=>by
    obtain⟨v,hv,j9⟩:=h (i+1) (by omega) j k hk;exact⟨v,by rw [←hv,Nat.succ_mul];congr 1;omega,j9⟩) _ k hk
   exact⟨v,by rw [←hv];congr 1;omega,j9⟩
theorem rK: ∀{n:Nat} {t:TypeId} {ks:List (Option IntKind)} {cs:List Value},E_ P n t=some ks→(∃m x,DataW.trod enc P w base spare held m t cs=some x)→∀(j:Nat) k,ks[j]? =some k→∃v,cs[j]? =some v∧yy k v
 | 0,_,_,_,h,_,_,_,_=>by cases h
 | n+1,t,ks,cs,h,⟨m,x,hx⟩,j,k,hk=>by
  unfold E_ at h;split at h
  ·rename_i kk ht;cases h;obtain⟨z,rfl,_,hw⟩:=DataW.trod_int ht hx
   match j,hk with
   | 0,hk=>
    simp at hk;subst hk;exact⟨_,rfl,z,rfl,hw⟩
   | j+1,hk=>simp at hk
  ·rename_i ht;cases h;cases m with
   | zero=>simp [DataW.trod]at hx
   | succ m=>
    have hb: ∃b,cs=[.bool b]:=by
     unfold DataW.trod at hx;rw [ht]at hx;split at hx<;>simp_all
    obtain⟨b,rfl⟩:=hb
    match j,hk with
    | 0,hk=>
     simp at hk;subst hk;exact⟨_,rfl,if b then 1 else 0,by cases b<;>rfl,trivial⟩
    | j+1,hk=>simp at hk
  ·rename_i fs ht;obtain⟨ys,n',_,_,_,UK,hf⟩:=DataW.trod_struct ht hx;have:=yz (cs:=cs) (fun t ks uM h1 h2=>rK (n:=n) h1 h2) h (fun f Lg=>by
    obtain⟨i,hi⟩:=List.getElem?_of_mem Lg;have mi:fs[i]? =some f:=by rw [←hi,Array.getElem?_toList]
    have h1:=hf i f mi;have By:i<fs.size:=(ae5.1 mi).1;exact⟨n',ys[i]'(by omega),h1.trans (afA _)⟩) j k hk
   simpa using this
  ·rename_i l e ht;split at h
   ·rename_i ks' he;split at h
    ·rename_i hc;cases h;obtain⟨xs,n',_,_,_,XL,hf⟩:=DataW.trod_array ht hx;have:=Sf (cs:=cs) l 0 (fun i hi j k hk=>by
      have h1:=hf i hi;obtain⟨v,hv,j9⟩:=rK (n:=n) he ⟨n',xs[i]'(by omega),h1.trans (afA _)⟩ j k hk;rw [List.getElem?_take]at hv;split at hv
      ·rw [List.getElem?_drop,hc]at hv;exact⟨v,by rw [←hv];congr 1;omega,j9⟩
      ·cases hv) j k hk
     simpa using this
    ·cases h
   ·cases h
  ·cases h
end
end Go.RX

namespace Go.RX.Fo
open Go Go.RX Go.Proofs Go.RX.Fg
open Go.ChangeShapes Go.WideShapes Go.ChangeAt Go.RowKit
theorem FY{L:List HP}{w:World}(h: ∀x∈L,x.wr=false∧∃S:Nat→Prop,x.p w S∧∀k,S k→k<w.heap.size):bK (L++[xg w.heap.size w]) w:=by
 have h1: ∀x∈L++[xg w.heap.size w],x.wr=false∧∃S:Nat→Prop,x.p w S∧∀k,S k→k<w.heap.size:=by
  intro x hx;rcases List.mem_append.1 hx with hx | hx
  ·exact h x hx
  ·simp only [afd,ae9,or_false]at hx;subst hx;exact⟨rfl,fun k=>k<w.heap.size,⟨fun _=>Iff.rfl,fun _ _=>rfl⟩,fun _ h=>h⟩
 generalize L++[xg w.heap.size w]=M at h1;have h2: ∀i:Nat,∃S:Nat→Prop,∀x,M[i]? =some x→x.p w S∧∀k,S k→k<w.heap.size:=by
  intro i;cases hi:M[i]? with
  | none=>exact⟨fun _=>False,fun x hx=>by cases hx⟩
  | some y=>
   obtain⟨_,S,hp,hk⟩:=h1 y (afr hi);exact⟨S,fun x hx=>by cases hx;exact⟨hp,hk⟩⟩
 refine⟨fun i=>(h2 i).choose,⟨fun i x hx=>(h2 i).choose_spec x hx,?_⟩⟩;intro i j x y _ hi hj tx;rw [(h1 x (afr hi)).1,(h1 y (afr hj)).1]at tx;simp at tx
theorem Be{w:World}{a:Option Addr}{len cap:Nat}{zs:List Int}(h:o3 .u8 w a len cap zs):(aj false ⟨.slice a len cap,rfl⟩ len fun j=>(zs.getD j 0).toNat).wr=false∧
  ∃S:Nat→Prop,(aj false ⟨.slice a len cap,rfl⟩ len fun j=>(zs.getD j 0).toNat).p w S∧∀k,S k→k<w.heap.size:=by
 have hz:(fun j=>(((zs.getD j 0).toNat:Nat):Int))=fun j=>zs.getD j 0:=by
  funext j;have:0≤zs.getD j 0:=by
   rcases h with⟨_,_,_,rfl⟩ | ⟨_,_,_,_,_,_,hw⟩
   ·simp
   ·by_cases hj:j<zs.length
    ·have:=hw zs[j] (List.getElem_mem hj);simp [Lit.wf,IntKind.min,IntKind.max,IntKind.signed,IntKind.bits]at this;simp [hj];omega
    ·simp [afz (by omega:zs.length≤j)]
  omega
 refine⟨rfl,_,?_,(AA h 5).2⟩;unfold aj;rw [hz];exact(AA h 5).1
theorem FX{w:World}{a:Option Addr}{len cap:Nat}{zs:List Int}(h:o3 .u8 w a len cap zs)(j:Nat):(zs.getD j 0).toNat<256:=by
 rcases h with⟨_,_,_,rfl⟩ | ⟨_,_,_,_,_,_,hw⟩
 ·simp
 ·by_cases hj:j<zs.length
  ·have:=hw zs[j] (List.getElem_mem hj);simp [Lit.wf,IntKind.min,IntKind.max,IntKind.signed,IntKind.bits]at this;simp [hj];omega
  ·simp [afz (by omega:zs.length≤j)]
theorem PF{w:World}{a:Option Addr}{len cap:Nat}{zs:List Int}(h:o3 .u8 w a len cap zs):len≤9223372036854775807:=by
 rcases h with⟨_,h,_⟩ | ⟨_,_,h,h2,_⟩
 ·omega
 ·unfold maxLen at h2;omega
section
variable {H:Type} {enc:TypeId×Value→H} {w:World} {base:Nat} {held:Bool}
theorem rb{fuel:Nat}{cs:List Value}{x:DataW H×List MemPlace}(h:DataW.trod enc ae0 w base (fun _=>true) held fuel 24 cs=some x): ∃a len cap zs,cs=[.slice a len cap]∧o3 .u8 w a len cap zs:=by
 rcases open_ints Tryz.underlying24 Tryz.underlying5 (by kernel_rfl) h with⟨mj,_⟩ | ⟨x,l,c,zs,mj,_,hl,hm,hz,_,ln,hwz⟩
 ·exact⟨none,0,0,[],mj,.inl ⟨rfl,rfl,rfl,rfl⟩⟩
 ·exact⟨some x,l,c,zs,mj,.inr ⟨x,rfl,hl,hm,by simpa using hz,ln,hwz⟩⟩
theorem Oa{cs:List Value}{o:Nat}{v:Value}(h:(cs.drop o).take 1=[v]):cs[o]? =some v:=by
 have:=congrArg (fun l=>l[0]?) h;simpa using this
set_option maxRecDepth 100000 in
theorem Jv{v:Value}{d:DataW H}{ps:List MemPlace}{r:Reach}{b0:Nat}(kf:Value.okWide ae0 w r b0 27 v)(hd:DataW.Trod enc ae0 w base (fun _=>true) held 27 v d ps):
  ∃(s aU:Nat) (a:Option Addr) (len cap:Nat) (zs:List Int) (S:Nat→Nat),v= .agg (.int .u16 (s:Int):: .int .u64 (aU:Int):: .slice a len cap::(aeU (al .u8 12 fun j=>((S j:Nat):Int)) [])).toArray∧
   aU<18446744073709551616∧o3 .u8 w a len cap zs∧∀j,S j<256:=by
 have vM: ∃cs,v= .agg cs:=by
  unfold Value.okWide at kf;rw [Tryz.underlying27]at kf;exact⟨_,kf.choose_spec.1⟩
 obtain⟨Lc,rfl⟩:=vM;obtain⟨fuel,hx⟩:=hd;obtain⟨xs,n,_,_,hl,XL,hf⟩:=DataW.trod_struct Tryz.underlying27 hx;have ln:Tryz.prog.cellsOf 27=15:=by kernel_rfl
 rw [ln]at hl;have mj:(Value.agg Lc).cells.toList=Lc.toList:=by simp [Value.cells]
 rw [mj]at hl hf;have wM: ∀i,i<4→∃y,xs[i]? =some y:=fun i hi=>⟨_,afA (by simpa using (by rw [XL];exact hi:i<xs.length))⟩
 obtain⟨y0,h0⟩:=wM 0 (by decide);obtain⟨y1,h1⟩:=wM 1 (by decide);obtain⟨y2,h2⟩:=wM 2 (by decide);obtain⟨y3,h3⟩:=wM 3 (by decide);have f0:DataW.trod enc ae0 w base (fun _=>true) held n 22 ((Lc.toList.drop 0).take (Tryz.prog.cellsOf 22))=xs[0]? :=hf 0 _ rfl;have f1:DataW.trod enc ae0 w base (fun _=>true) held n 23 ((Lc.toList.drop 1).take (Tryz.prog.cellsOf 23))=xs[1]? :=hf 1 _ rfl;have f2:DataW.trod enc ae0 w base (fun _=>true) held n 24 ((Lc.toList.drop 2).take (Tryz.prog.cellsOf 24))=xs[2]? :=hf 2 _ rfl;have f3:DataW.trod enc ae0 w base (fun _=>true) held n 25 ((Lc.toList.drop 3).take (Tryz.prog.cellsOf 25))=xs[3]? :=hf 3 _ rfl;rw [h0]at f0;rw [h1]at f1;rw [h2]at f2;rw [h3]at f3;have c22:Tryz.prog.cellsOf 22=1:=by kernel_rfl
 have c23:Tryz.prog.cellsOf 23=1:=by kernel_rfl
 have c24:Tryz.prog.cellsOf 24=1:=by kernel_rfl
 have c25:Tryz.prog.cellsOf 25=12:=by kernel_rfl
 rw [c22]at f0;rw [c23]at f1;rw [c24]at f2;rw [c25]at f3;obtain⟨z0,e0,_,w0⟩:=DataW.trod_int Tryz.underlying22 f0;obtain⟨z1,e1,_,w1⟩:=DataW.trod_int Tryz.underlying23 f1;obtain⟨a,len,cap,zs,e2,zh⟩:=rb f2;have hg:E_ ae0 3 25=some (List.replicate 12 (some .u8)):=by kernel_rfl
 have key: ∀j:Nat,∃z:Nat,z<256∧(j<12→Lc.toList[3+j]? =some (.int .u8 (z:Int))):=by
  intro j;by_cases hj:j<12
  ·obtain⟨u,hu,z,rfl,hz⟩:=rK hg ⟨_,_,f3⟩ j (some .u8) (by rw [List.getElem?_replicate,if_pos hj]);have OQ:0≤z∧z<256:=by
    simp [N_,Lit.wf,IntKind.min,IntKind.max,IntKind.signed,IntKind.bits]at hz;omega
   refine⟨z.toNat,by omega,fun _=>?_⟩;rw [List.getElem?_take,if_pos hj,List.getElem?_drop]at hu;rw [hu];simp only [Sd];congr 2;omega
  ·exact⟨0,by decide,fun h=>absurd h hj⟩
 have w0':0≤z0:=by
  simp [Lit.wf,IntKind.min,IntKind.max,IntKind.signed,IntKind.bits]at w0;omega
 have w1':0≤z1∧z1<18446744073709551616:=by
  simp [Lit.wf,IntKind.min,IntKind.max,IntKind.signed,IntKind.bits]at w1;omega
 refine⟨z0.toNat,z1.toNat,a,len,cap,zs,fun j=>(key j).choose,?_,by omega,zh,fun j=>(key j).choose_spec.1⟩;congr 1;apply Array.ext';rw [afq,List.append_nil];have a0:=Oa e0;have a1:=Oa e1;have a2:=Oa e2;rw [show((z0.toNat:Nat):Int)=z0 by omega,show((z1.toNat:Nat):Int)=z1 by omega];apply List.ext_getElem?;intro j
 match j with
 | 0=>rw [a0];rfl
 | 1=>rw [a1];rfl
 | 2=>rw [a2];rfl
 | j+3=>
  have e:(.int .u16 z0:: .int .u64 z1:: .slice a len cap::al .u8 12 fun j=>(((key j).choose:Nat):Int):List Value)[j+3]? =(al .u8 12 fun j=>(((key j).choose:Nat):Int))[j]? :=rfl;show Lc.toList[j+3]? =_;refine Eq.trans ?_ e.symm;rw [bu];by_cases hj:j<12
  ·rw [if_pos hj,Nat.add_comm];exact(key j).choose_spec.2 hj
  ·rw [if_neg hj,afz];omega
end
end Go.RX.Fo
