/- CallMeets. -/
import Derived.Test.YtphemenngjkfbaaM40
import Derived.Test.YtphemenngjkfbaaM47
open Go.IntKind renaming wrap → ae
open Go.Proofs.Try renaming prog → adY
open List renaming getD_cons_succ → aeg, getD_cons_zero → ah, mem_map → aeu, mem_range → adU
namespace Go.RX.Ds
open Go.RX Go.Proofs Go.Cp Go.RX.Cs Go.RX.Ct Go.RX.Cu Go.RX.Cy Go.RX.Cz Go.RX.Da Go.RX.Dc Go.RX.Dd Go.RX.Df Go.RX.Dg Go.RX.Di Go.RX.Dj Go.RX.Dk Go.RX.Dl Go.RX.Dm Go.RX.Dn Go.RX.Do Go.RX.Dp
set_option maxRecDepth 100000
variable {F:Nat→LI→LI→Nat→Nat→LI} {H:LI→LI}
theorem same{A B:Nat→Int}{n:Nat}(h:aJ A 0 n=aJ B 0 n)(j:Nat)(hj:j<n):A j=B j:=by
 rw [←mU (A:=A) hj,←mU (A:=B) hj,h]
theorem ids{A B:Nat→Int}(h:a_ A=a_ B): ∀j,j<16→A j=B j:=same (ln (by rw [f_,f_]) h)
theorem RH{z:FB}{vf ve:V1}{s:Sy LI}{T f:Nat}{args:List Value}{post:Value→List HP→Prop}(h: ∀A:dx,fw A s.bS→aq adY f args (E2 z vf ve s T A) post):aq adY f args (four z vf ve s T) post:=
 aq.AE [Dm.iD z vf ve s] (pL z ve s T) fun A=>h A.1 A.2
def VZ(F:Nat→LI→LI→Nat→Nat→LI)(H:LI→LI)(z:FB)(q:Nat)(k:Ext):Prop:= ∃(s:Sy LI) (vf ve:V1) (T:Nat),k.v=[vf,ve]∧k.i=[(s.now:Int),(s.dl:Int),(q:Int)]∧k.p=cR vf s.bS::pL z ve s T∧K2 F H (20*q) (1+100*q) q s∧T≤16*q
set_option maxHeartbeats 1000000 in
theorem Jk(hS:u6 F H)(v0:V1)(n:Nat)(A0 A1 A2 A3:Nat→Int)(h0: ∀j,j<n→0≤A0 j)(h1: ∀j,j<n→0≤A1 j)(h2: ∀j,j<n→0≤A2 j∧A2 j<65536)(h3: ∀j,j<n→0≤A3 j∧A3 j<256):
  aq adY 11 [v0.v] [aB false 123 4 v0.v n (aH n [au .u8 1 A0,au .u8 1 A1,au .u16 1 A2,au .u8 1 A3])] fun v _=>v= .bool true:=by
 refine SP (fun v _=>v= .bool true) (n:Int) A0 A1 A2 A3 v0 ?_;unfold MX;refine⟨_,Md.wc,?_⟩;rintro v hs ⟨rfl,rfl⟩;refine⟨rfl,rfl,by omega,fun _=>⟨fun _=>rfl,fun hn=>?_⟩⟩;refine⟨_,Dr.E7,?_⟩;rintro v hs ⟨z,vf,ve,rfl,rfl⟩;refine⟨z.b0,z.bm 0,z.bm 1,z.bm 2,z.bm 3,z.b5,z.b6,z.b7,z.b8,vf,ve,_,_,_,_,_,_,_,_,rfl,rfl,?_⟩;refine⟨fun k=> ∃q:Nat,q≤n∧VZ F H z q k,fun k=>(n - k.i.getD 2 0).toNat,⟨_,_,_,_,_,_,_,_,_,_,_,rfl,rfl,rfl,rfl,rfl,rfl,rfl,rfl,rfl,rfl,rfl,0,by omega,Dr.start,_,_,0,rfl,rfl,rfl,Dr.Hp,by omega⟩,?_⟩;clear vf ve;rintro v3 v4 x3 x4 x5 p6 p7 p8 p9 l6 pf ⟨q,hq,s,vf,ve,T,hv,hi,hp,hH,hT⟩;simp only [List.cons.injEq,and_true]at hv hi hp;obtain⟨rfl,rfl⟩:=hv;obtain⟨rfl,rfl,rfl⟩:=hi;obtain⟨rfl,rfl,rfl,rfl,rfl,rfl⟩:=hp;refine⟨fun cK=>⟨by omega,fun _=>fun _=>?_⟩,fun wG=>?_⟩
 ·have TJ:q<n:=by omega
  simp only [Int.toNat_natCast];obtain⟨k4,e4⟩:=Int.eq_ofNat_of_zero_le (h0 q TJ);obtain⟨k5,e5⟩:=Int.eq_ofNat_of_zero_le (h1 q TJ);obtain⟨k6,e6⟩:=Int.eq_ofNat_of_zero_le (h2 q TJ).1;obtain⟨k7,e7⟩:=Int.eq_ofNat_of_zero_le (h3 q TJ).1;have b6:=(h2 q TJ).2;have b7:=(h3 q TJ).2;rw [e4,e5,e6,e7];rw [e6]at b6;rw [e7]at b7;refine⟨_,RH fun A hA=>Hn (z:=z) (vf:=v3) (ve:=v4) hS hH (by omega) (by omega) (by omega) (by omega) hA k4 k5 k6 k7 (by omega) (by omega),?_⟩;rintro v hs ⟨rfl,s',fx,fy,XA,rfl⟩;refine⟨fx,fy,_,_,_,_,_,_,_,_,rfl,rfl,by omega,fun _=>⟨by omega,fun _=>⟨_,_,_,_,_,_,_,_,_,_,_,rfl,rfl,rfl,rfl,rfl,rfl,rfl,rfl,rfl,rfl,rfl,⟨q+1,by omega,s',fx,fy,T+16,rfl,rfl,rfl,⟨XA.g,XA.k,(by have:=XA.n;omega),XA.d⟩,by omega⟩,?_⟩⟩⟩;simp only [ah,aeg];omega
 refine⟨_,RH fun A hA=>Ho (z:=z) (vf:=v3) (ve:=v4) hS hH (by omega) (by omega) (by omega) hA,?_⟩;clear hH hT;rintro v hs ⟨rfl,s,vf,ve,T,hr,rfl⟩;refine⟨vf,ve,_,_,_,_,_,_,_,_,rfl,rfl,?_⟩;refine⟨fun _=>True,?_,fun _=>?_⟩
 ·refine⟨_,Dh.dF (z.bm 0) 0 (s.ms 0),?_⟩;rintro v hs ⟨⟨A4,p,d,q,rfl, -,hc⟩,rfl⟩;refine⟨p,d,A4,q,rfl,rfl,fun _ fh=>⟨_,Dh.dA (z.bm 0) 0 (s.ms 0),?_⟩⟩;rintro v hs ⟨rfl,rfl⟩;refine⟨_,rfl,rfl,fun _=>trivial,fun n0=>⟨fun h4=>?_,fun h4=>absurd (hr.p 0 (by omega)) (by omega)⟩⟩;have k4:(s.ms 0).ph=4:=by omega
  obtain⟨OB,hp,hd,rn⟩:=hc (by omega);obtain⟨-,e1,e2,e3,e4,e5⟩:=(hr.p 0 (by omega)).resolve_left (by omega);have e0:=hr.o 0 (by omega) k4;have TL:p=1:=by unfold eh at rn;omega
  subst TL;refine⟨fun hz=>?_,fun hz=>?_⟩
  ·have hz:d=0:=by omega
   subst hz;have HE:(s.ms 0).peer=2:=by unfold eh at rn;omega
   rw [HE]at e2 e3 e4 e5;refine⟨fun _=>True,fun w Fs o=>⟨o,trivial⟩,fun _=>?_⟩;refine⟨_,Dh.dF (z.bm 2) 2 (s.ms 2),?_⟩;rintro v hs ⟨⟨A5,p',d',q',rfl, -,t_⟩,rfl⟩;refine⟨p',d',A5,q',rfl,rfl,fun _ _=>⟨_,Dh.dA (z.bm 2) 2 (s.ms 2),?_⟩⟩;rintro v hs ⟨rfl,rfl⟩;obtain⟨sO,jE,QV,iJ⟩:=t_ (by omega);have HF:=ids (sO.trans (e3.trans OB.symm));rw [e4]at iJ;have q1:p'=0:=by unfold eh at iJ;omega
   have q2:d'=0:=by unfold eh at iJ;omega
   subst q1 q2;refine⟨_,rfl,rfl,fun _=>fun _ _=>⟨fun _=>?_,fun hn=>absurd ⟨rfl,rfl⟩ hn⟩,fun hn=>absurd (by rintro (h | h);exact h (by omega);exact h HF) hn⟩;refine⟨_,Dh.cj (z.bm 2) 2 (s.ms 2) e2,?_⟩;rintro v hs ⟨⟨A6,rfl,HG⟩,rfl⟩;refine⟨A6,rfl,rfl,_,Dh.cj (z.bm 0) 0 (s.ms 0) k4,?_⟩;rintro v hs ⟨⟨A7,rfl,HH⟩,rfl⟩;exact⟨A7,rfl,rfl,fun hn=>absurd (same (HG.trans (e5.trans HH.symm))) hn,fun _=>trivial⟩
  ·have hz:d=1:=by omega
   subst hz;have HE:(s.ms 0).peer=3:=by unfold eh at rn;omega
   rw [HE]at e2 e3 e4 e5;refine⟨fun _=>True,fun w Fs o=>⟨o,trivial⟩,fun _=>?_⟩;refine⟨_,Dh.dF (z.bm 3) 3 (s.ms 3),?_⟩;rintro v hs ⟨⟨A5,p',d',q',rfl, -,t_⟩,rfl⟩;refine⟨p',d',A5,q',rfl,rfl,fun _ _=>⟨_,Dh.dA (z.bm 3) 3 (s.ms 3),?_⟩⟩;rintro v hs ⟨rfl,rfl⟩;obtain⟨sO,jE,QV,iJ⟩:=t_ (by omega);have HF:=ids (sO.trans (e3.trans OB.symm));rw [e4]at iJ;have q1:p'=0:=by unfold eh at iJ;omega
   have q2:d'=0:=by unfold eh at iJ;omega
   subst q1 q2;refine⟨_,rfl,rfl,fun _=>fun _ _=>⟨fun _=>?_,fun hn=>absurd ⟨rfl,rfl⟩ hn⟩,fun hn=>absurd (by rintro (h | h);exact h (by omega);exact h HF) hn⟩;refine⟨_,Dh.cj (z.bm 3) 3 (s.ms 3) e2,?_⟩;rintro v hs ⟨⟨A6,rfl,HG⟩,rfl⟩;refine⟨A6,rfl,rfl,_,Dh.cj (z.bm 0) 0 (s.ms 0) k4,?_⟩;rintro v hs ⟨⟨A7,rfl,HH⟩,rfl⟩;exact⟨A7,rfl,rfl,fun hn=>absurd (same (HG.trans (e5.trans HH.symm))) hn,fun _=>trivial⟩
 refine⟨fun _=>True,?_,fun _=>?_⟩
 ·refine⟨_,Dh.dF (z.bm 1) 1 (s.ms 1),?_⟩;rintro v hs ⟨⟨A4,p,d,q,rfl, -,hc⟩,rfl⟩;refine⟨p,d,A4,q,rfl,rfl,fun _ fh=>⟨_,Dh.dA (z.bm 1) 1 (s.ms 1),?_⟩⟩;rintro v hs ⟨rfl,rfl⟩;refine⟨_,rfl,rfl,fun _=>trivial,fun n0=>⟨fun h4=>?_,fun h4=>absurd (hr.p 1 (by omega)) (by omega)⟩⟩;have k4:(s.ms 1).ph=4:=by omega
  obtain⟨OB,hp,hd,rn⟩:=hc (by omega);obtain⟨-,e1,e2,e3,e4,e5⟩:=(hr.p 1 (by omega)).resolve_left (by omega);have e0:=hr.o 1 (by omega) k4;have TL:p=1:=by unfold eh at rn;omega
  subst TL;refine⟨fun hz=>?_,fun hz=>?_⟩
  ·have hz:d=0:=by omega
   subst hz;have HE:(s.ms 1).peer=2:=by unfold eh at rn;omega
   rw [HE]at e2 e3 e4 e5;refine⟨fun _=>True,fun w Fs o=>⟨o,trivial⟩,fun _=>?_⟩;refine⟨_,Dh.dF (z.bm 2) 2 (s.ms 2),?_⟩;rintro v hs ⟨⟨A5,p',d',q',rfl, -,t_⟩,rfl⟩;refine⟨p',d',A5,q',rfl,rfl,fun _ _=>⟨_,Dh.dA (z.bm 2) 2 (s.ms 2),?_⟩⟩;rintro v hs ⟨rfl,rfl⟩;obtain⟨sO,jE,QV,iJ⟩:=t_ (by omega);have HF:=ids (sO.trans (e3.trans OB.symm));rw [e4]at iJ;have q1:p'=0:=by unfold eh at iJ;omega
   have q2:d'=1:=by unfold eh at iJ;omega
   subst q1 q2;refine⟨_,rfl,rfl,fun _=>fun _ _=>⟨fun _=>?_,fun hn=>absurd ⟨rfl,rfl⟩ hn⟩,fun hn=>absurd (by rintro (h | h);exact h (by omega);exact h HF) hn⟩;refine⟨_,Dh.cj (z.bm 2) 2 (s.ms 2) e2,?_⟩;rintro v hs ⟨⟨A6,rfl,HG⟩,rfl⟩;refine⟨A6,rfl,rfl,_,Dh.cj (z.bm 1) 1 (s.ms 1) k4,?_⟩;rintro v hs ⟨⟨A7,rfl,HH⟩,rfl⟩;exact⟨A7,rfl,rfl,fun hn=>absurd (same (HG.trans (e5.trans HH.symm))) hn,fun _=>trivial⟩
  ·have hz:d=1:=by omega
   subst hz;have HE:(s.ms 1).peer=3:=by unfold eh at rn;omega
   rw [HE]at e2 e3 e4 e5;refine⟨fun _=>True,fun w Fs o=>⟨o,trivial⟩,fun _=>?_⟩;refine⟨_,Dh.dF (z.bm 3) 3 (s.ms 3),?_⟩;rintro v hs ⟨⟨A5,p',d',q',rfl, -,t_⟩,rfl⟩;refine⟨p',d',A5,q',rfl,rfl,fun _ _=>⟨_,Dh.dA (z.bm 3) 3 (s.ms 3),?_⟩⟩;rintro v hs ⟨rfl,rfl⟩;obtain⟨sO,jE,QV,iJ⟩:=t_ (by omega);have HF:=ids (sO.trans (e3.trans OB.symm));rw [e4]at iJ;have q1:p'=0:=by unfold eh at iJ;omega
   have q2:d'=1:=by unfold eh at iJ;omega
   subst q1 q2;refine⟨_,rfl,rfl,fun _=>fun _ _=>⟨fun _=>?_,fun hn=>absurd ⟨rfl,rfl⟩ hn⟩,fun hn=>absurd (by rintro (h | h);exact h (by omega);exact h HF) hn⟩;refine⟨_,Dh.cj (z.bm 3) 3 (s.ms 3) e2,?_⟩;rintro v hs ⟨⟨A6,rfl,HG⟩,rfl⟩;refine⟨A6,rfl,rfl,_,Dh.cj (z.bm 1) 1 (s.ms 1) k4,?_⟩;rintro v hs ⟨⟨A7,rfl,HH⟩,rfl⟩;exact⟨A7,rfl,rfl,fun hn=>absurd (same (HG.trans (e5.trans HH.symm))) hn,fun _=>trivial⟩
 refine⟨fun _=>True,?_,fun _=>?_⟩
 ·refine⟨_,Dh.dF (z.bm 2) 2 (s.ms 2),?_⟩;rintro v hs ⟨⟨A4,p,d,q,rfl, -,hc⟩,rfl⟩;refine⟨p,d,A4,q,rfl,rfl,fun _ fh=>⟨_,Dh.dA (z.bm 2) 2 (s.ms 2),?_⟩⟩;rintro v hs ⟨rfl,rfl⟩;refine⟨_,rfl,rfl,fun _=>trivial,fun n0=>⟨fun h4=>?_,fun h4=>absurd (hr.p 2 (by omega)) (by omega)⟩⟩;have k4:(s.ms 2).ph=4:=by omega
  obtain⟨OB,hp,hd,rn⟩:=hc (by omega);obtain⟨-,e1,e2,e3,e4,e5⟩:=(hr.p 2 (by omega)).resolve_left (by omega);have e0:=hr.o 2 (by omega) k4;have TL:p=0:=by unfold eh at rn;omega
  subst TL;refine⟨fun hz=>?_,fun hz=>?_⟩
  ·have hz:d=0:=by omega
   subst hz;have HE:(s.ms 2).peer=0:=by unfold eh at rn;omega
   rw [HE]at e2 e3 e4 e5;refine⟨fun _=>True,fun w Fs o=>⟨o,trivial⟩,fun _=>?_⟩;refine⟨_,Dh.dF (z.bm 0) 0 (s.ms 0),?_⟩;rintro v hs ⟨⟨A5,p',d',q',rfl, -,t_⟩,rfl⟩;refine⟨p',d',A5,q',rfl,rfl,fun _ _=>⟨_,Dh.dA (z.bm 0) 0 (s.ms 0),?_⟩⟩;rintro v hs ⟨rfl,rfl⟩;obtain⟨sO,jE,QV,iJ⟩:=t_ (by omega);have HF:=ids (sO.trans (e3.trans OB.symm));rw [e4]at iJ;have q1:p'=1:=by unfold eh at iJ;omega
   have q2:d'=0:=by unfold eh at iJ;omega
   subst q1 q2;refine⟨_,rfl,rfl,fun _=>fun _ _=>⟨fun _=>?_,fun hn=>absurd ⟨rfl,rfl⟩ hn⟩,fun hn=>absurd (by rintro (h | h);exact h (by omega);exact h HF) hn⟩;refine⟨_,Dh.cj (z.bm 0) 0 (s.ms 0) e2,?_⟩;rintro v hs ⟨⟨A6,rfl,HG⟩,rfl⟩;refine⟨A6,rfl,rfl,_,Dh.cj (z.bm 2) 2 (s.ms 2) k4,?_⟩;rintro v hs ⟨⟨A7,rfl,HH⟩,rfl⟩;exact⟨A7,rfl,rfl,fun hn=>absurd (same (HG.trans (e5.trans HH.symm))) hn,fun _=>trivial⟩
  ·have hz:d=1:=by omega
   subst hz;have HE:(s.ms 2).peer=1:=by unfold eh at rn;omega
   rw [HE]at e2 e3 e4 e5;refine⟨fun _=>True,fun w Fs o=>⟨o,trivial⟩,fun _=>?_⟩;refine⟨_,Dh.dF (z.bm 1) 1 (s.ms 1),?_⟩;rintro v hs ⟨⟨A5,p',d',q',rfl, -,t_⟩,rfl⟩;refine⟨p',d',A5,q',rfl,rfl,fun _ _=>⟨_,Dh.dA (z.bm 1) 1 (s.ms 1),?_⟩⟩;rintro v hs ⟨rfl,rfl⟩;obtain⟨sO,jE,QV,iJ⟩:=t_ (by omega);have HF:=ids (sO.trans (e3.trans OB.symm));rw [e4]at iJ;have q1:p'=1:=by unfold eh at iJ;omega
   have q2:d'=0:=by unfold eh at iJ;omega
   subst q1 q2;refine⟨_,rfl,rfl,fun _=>fun _ _=>⟨fun _=>?_,fun hn=>absurd ⟨rfl,rfl⟩ hn⟩,fun hn=>absurd (by rintro (h | h);exact h (by omega);exact h HF) hn⟩;refine⟨_,Dh.cj (z.bm 1) 1 (s.ms 1) e2,?_⟩;rintro v hs ⟨⟨A6,rfl,HG⟩,rfl⟩;refine⟨A6,rfl,rfl,_,Dh.cj (z.bm 2) 2 (s.ms 2) k4,?_⟩;rintro v hs ⟨⟨A7,rfl,HH⟩,rfl⟩;exact⟨A7,rfl,rfl,fun hn=>absurd (same (HG.trans (e5.trans HH.symm))) hn,fun _=>trivial⟩
 refine⟨fun _=>True,?_,fun _=>?_⟩
 ·refine⟨_,Dh.dF (z.bm 3) 3 (s.ms 3),?_⟩;rintro v hs ⟨⟨A4,p,d,q,rfl, -,hc⟩,rfl⟩;refine⟨p,d,A4,q,rfl,rfl,fun _ fh=>⟨_,Dh.dA (z.bm 3) 3 (s.ms 3),?_⟩⟩;rintro v hs ⟨rfl,rfl⟩;refine⟨_,rfl,rfl,fun _=>trivial,fun n0=>⟨fun h4=>?_,fun h4=>absurd (hr.p 3 (by omega)) (by omega)⟩⟩;have k4:(s.ms 3).ph=4:=by omega
  obtain⟨OB,hp,hd,rn⟩:=hc (by omega);obtain⟨-,e1,e2,e3,e4,e5⟩:=(hr.p 3 (by omega)).resolve_left (by omega);have e0:=hr.o 3 (by omega) k4;have TL:p=0:=by unfold eh at rn;omega
  subst TL;refine⟨fun hz=>?_,fun hz=>?_⟩
  ·have hz:d=0:=by omega
   subst hz;have HE:(s.ms 3).peer=0:=by unfold eh at rn;omega
   rw [HE]at e2 e3 e4 e5;refine⟨fun _=>True,fun w Fs o=>⟨o,trivial⟩,fun _=>?_⟩;refine⟨_,Dh.dF (z.bm 0) 0 (s.ms 0),?_⟩;rintro v hs ⟨⟨A5,p',d',q',rfl, -,t_⟩,rfl⟩;refine⟨p',d',A5,q',rfl,rfl,fun _ _=>⟨_,Dh.dA (z.bm 0) 0 (s.ms 0),?_⟩⟩;rintro v hs ⟨rfl,rfl⟩;obtain⟨sO,jE,QV,iJ⟩:=t_ (by omega);have HF:=ids (sO.trans (e3.trans OB.symm));rw [e4]at iJ;have q1:p'=1:=by unfold eh at iJ;omega
   have q2:d'=1:=by unfold eh at iJ;omega
   subst q1 q2;refine⟨_,rfl,rfl,fun _=>fun _ _=>⟨fun _=>?_,fun hn=>absurd ⟨rfl,rfl⟩ hn⟩,fun hn=>absurd (by rintro (h | h);exact h (by omega);exact h HF) hn⟩;refine⟨_,Dh.cj (z.bm 0) 0 (s.ms 0) e2,?_⟩;rintro v hs ⟨⟨A6,rfl,HG⟩,rfl⟩;refine⟨A6,rfl,rfl,_,Dh.cj (z.bm 3) 3 (s.ms 3) k4,?_⟩;rintro v hs ⟨⟨A7,rfl,HH⟩,rfl⟩;exact⟨A7,rfl,rfl,fun hn=>absurd (same (HG.trans (e5.trans HH.symm))) hn,fun _=>trivial⟩
  ·have hz:d=1:=by omega
   subst hz;have HE:(s.ms 3).peer=1:=by unfold eh at rn;omega
   rw [HE]at e2 e3 e4 e5;refine⟨fun _=>True,fun w Fs o=>⟨o,trivial⟩,fun _=>?_⟩;refine⟨_,Dh.dF (z.bm 1) 1 (s.ms 1),?_⟩;rintro v hs ⟨⟨A5,p',d',q',rfl, -,t_⟩,rfl⟩;refine⟨p',d',A5,q',rfl,rfl,fun _ _=>⟨_,Dh.dA (z.bm 1) 1 (s.ms 1),?_⟩⟩;rintro v hs ⟨rfl,rfl⟩;obtain⟨sO,jE,QV,iJ⟩:=t_ (by omega);have HF:=ids (sO.trans (e3.trans OB.symm));rw [e4]at iJ;have q1:p'=1:=by unfold eh at iJ;omega
   have q2:d'=1:=by unfold eh at iJ;omega
   subst q1 q2;refine⟨_,rfl,rfl,fun _=>fun _ _=>⟨fun _=>?_,fun hn=>absurd ⟨rfl,rfl⟩ hn⟩,fun hn=>absurd (by rintro (h | h);exact h (by omega);exact h HF) hn⟩;refine⟨_,Dh.cj (z.bm 1) 1 (s.ms 1) e2,?_⟩;rintro v hs ⟨⟨A6,rfl,HG⟩,rfl⟩;refine⟨A6,rfl,rfl,_,Dh.cj (z.bm 3) 3 (s.ms 3) k4,?_⟩;rintro v hs ⟨⟨A7,rfl,HH⟩,rfl⟩;exact⟨A7,rfl,rfl,fun hn=>absurd (same (HG.trans (e5.trans HH.symm))) hn,fun _=>trivial⟩
 rfl
end Go.RX.Ds

namespace Go.RX.Dt
open Go.RX
def row(b d:Nat):Ck:= .row b true [Ma.u8 0,Ma.u8 1,.aX .u8 8 (.aw 0),.ptr d 0,Ma.u8 2,.aX .u8 16 (.aw 1),.bool (.nz (.var 3)),Ma.u8 4,Ma.u8 5,Ma.u8 6,.aX .u8 32 (.aw 2),.aX .u8 32 (.aw 3),.aX .u8 32 (.aw 4),
 .cO (.var 7),.cO (.var 8),Ma.u64 9,Ma.u64 10,Ma.u64 11,Ma.u64 12,Ma.u64 13,.int .u32 (.var 14)]
def hp:List Ck:=[.row 0 true [.sl 1 (.lit 96) 1 (.lit 32) (.lit 32)],row 1 2]
def aQ:cz:={b:=3,i:=15,a:=5}
open Go.RX Go.Proofs
noncomputable def cx:Ctx:={T:=TT,FT:=FT,loops:=Sh.loops,calls:=Sh.calls}
open Go.RX Go.Proofs
set_option maxRecDepth 100000
def I6(P:Program)(ao:Value→List HP→Prop)(x0 x1 x2 x3 x4 x5 x6 x7 x8 x9 aG aO aI aT bj:Int)(A0 A1 A2 A3 A4:Nat→Int)(b0 b1 b2:Nat):Prop:=
 ∀_:Nat,Cl P 111 [] [] fun x hs _=> ∃(b4:Nat) (v0 v1:V1) (A5 A6:Nat→Int),x= .pp b4∧hs=[Uw v0.v 8 A5,Uw v1.v 64 A6,Hw b4 v0.v v1.v]∧
 ∀(_:V1) (_:Nat) (_:V1) (_:Nat) (_:V1) (_:Nat) (_:V1) (_:Nat) (_:V1) (_:Nat) (_:V1) (_:Nat) (_:V1) (_:Nat) (_:V1) (_:Nat) (_:V1) (_:Nat) (_:V1) (_:Nat) (_:V1) (_:Nat) (_:V1) (_:Nat) (_:V1) (_:Nat) (_:V1) (_:Nat) (_:V1) (_:Nat) (_:V1) (_:Nat) (_:V1) (_:Nat) (_:V1) (_:Nat) (_:V1) (_:Nat) (_:V1) (_:Nat) (_:V1) (_:Nat) (_:V1) (_:Nat) (_:V1) (_:Nat) (_:V1) (_:Nat) (_ _ Um:V1),Cl P 127 [.pp b4,(bJ 1 Um.v 0 64 none)] [Hw b4 v0.v v1.v,Uw v0.v 8 A5,Uw v1.v 64 A6,bn true Um 64 (aW (aj (aj (aj (aj (aj (aj (aj (aj (aj (aj (aj (aj (aj (aj (aj (aj (aj (aj (aj (aj (aj (aj (aj (aW A4 32 1 (aj (fun _=>0) 0 128)) 33 0) 34 0) 35 0) 36 0) 37 0) 38 0) 39 0) 40 0) 41 0) 42 0) 43 0) 44 0) 45 0) 46 0) 47 0) 48 0) 49 0) 50 0) 51 0) 52 0) 53 0) 54 0) 55 0) 56 8 (aj (aj (aj (aj (aj (aj (aj (aj (fun _=>0) 7 0) 6 1) 5 0) 4 0) 3 0) 2 0) 1 0) 0 0))] fun x hs _=> ∃A7:(Nat→Int),x= .tuple #[]∧hs=[Hw b4 v0.v v1.v,Uw v0.v 8 A7,Uw v1.v 64 A6,bn true Um 64 (aW (aj (aj (aj (aj (aj (aj (aj (aj (aj (aj (aj (aj (aj (aj (aj (aj (aj (aj (aj (aj (aj (aj (aj (aW A4 32 1 (aj (fun _=>0) 0 128)) 33 0) 34 0) 35 0) 36 0) 37 0) 38 0) 39 0) 40 0) 41 0) 42 0) 43 0) 44 0) 45 0) 46 0) 47 0) 48 0) 49 0) 50 0) 51 0) 52 0) 53 0) 54 0) 55 0) 56 8 (aj (aj (aj (aj (aj (aj (aj (aj (fun _=>0) 7 0) 6 1) 5 0) 4 0) 3 0) 2 0) 1 0) 0 0))]∧
 ∀(_:Nat) (_:V1) (_:Nat) (_:V1) (_:Nat) (_:V1) (_:Nat) (_:V1) (_:Nat) (_:V1) (_:Nat) (_:V1) (_:Nat) (_:V1) (_:Nat) (_:V1) (_:Nat) (_:V1) (_:Nat) (_:V1) (_:Nat) (_:V1) (_:Nat) (_:V1) (_:Nat) (_:V1) (_:Nat) (_:V1) (_:Nat) (_:V1) (_:Nat) (_:V1) (_:Nat) (_:V1) (_:Nat) (_:V1) (_:Nat) (_:V1) (_:Nat) (_:V1) (_:Nat) (_:V1) (_:Nat) (_:V1) (_:Nat) (_:V1) (_:Nat) (_:V1) (_:Nat) (_:V1) (_:Nat) (_:V1) (_:Nat) (_:V1) (_:Nat) (_:V1) (_:Nat) (_:V1) (_:Nat) (_:V1) (_:Nat) (_:V1) (_:Nat) (_:V1),ao (.sg 32 (aj (aj (aj (aj (aj (aj (aj (aj (aj (aj (aj (aj (aj (aj (aj (aj (aj (aj (aj (aj (aj (aj (aj (aj (aj (aj (aj (aj (aj (aj (aj (aj (fun _=>0) 0 (ae .u8 (ax .shr .u32 (A7 0) 24))) 1 (ae .u8 (ax .shr .u32 (A7 0) 16))) 2 (ae .u8 (ax .shr .u32 (A7 0) 8))) 3 (ae .u8 (ax .shr .u32 (A7 0) 0))) 4 (ae .u8 (ax .shr .u32 (A7 1) 24))) 5 (ae .u8 (ax .shr .u32 (A7 1) 16))) 6 (ae .u8 (ax .shr .u32 (A7 1) 8))) 7 (ae .u8 (ax .shr .u32 (A7 1) 0))) 8 (ae .u8 (ax .shr .u32 (A7 2) 24))) 9 (ae .u8 (ax .shr .u32 (A7 2) 16))) 10 (ae .u8 (ax .shr .u32 (A7 2) 8))) 11 (ae .u8 (ax .shr .u32 (A7 2) 0))) 12 (ae .u8 (ax .shr .u32 (A7 3) 24))) 13 (ae .u8 (ax .shr .u32 (A7 3) 16))) 14 (ae .u8 (ax .shr .u32 (A7 3) 8))) 15 (ae .u8 (ax .shr .u32 (A7 3) 0))) 16 (ae .u8 (ax .shr .u32 (A7 4) 24))) 17 (ae .u8 (ax .shr .u32 (A7 4) 16))) 18 (ae .u8 (ax .shr .u32 (A7 4) 8))) 19 (ae .u8 (ax .shr .u32 (A7 4) 0))) 20 (ae .u8 (ax .shr .u32 (A7 5) 24))) 21 (ae .u8 (ax .shr .u32 (A7 5) 16))) 22 (ae .u8 (ax .shr .u32 (A7 5) 8))) 23 (ae .u8 (ax .shr .u32 (A7 5) 0))) 24 (ae .u8 (ax .shr .u32 (A7 6) 24))) 25 (ae .u8 (ax .shr .u32 (A7 6) 16))) 26 (ae .u8 (ax .shr .u32 (A7 6) 8))) 27 (ae .u8 (ax .shr .u32 (A7 6) 0))) 28 (ae .u8 (ax .shr .u32 (A7 7) 24))) 29 (ae .u8 (ax .shr .u32 (A7 7) 16))) 30 (ae .u8 (ax .shr .u32 (A7 7) 8))) 31 (ae .u8 (ax .shr .u32 (A7 7) 0)))) [ak b0 true ([.slice (some ⟨b1,96,none⟩) 32 32]),Mw b1 x0 x1 A0 b2 x2 A1 (!(x3==0)) x4 x5 x6 A2 A3 A4 (aC x7) (aC x8) x9 aG aO aI aT bj]
theorem QW(ao:Value→List HP→Prop)(x0 x1 x2 x3 x4 x5 x6 x7 x8 x9 aG aO aI aT bj:Int)(A0 A1 A2 A3 A4:Nat→Int)(b0 b1 b2:Nat)(h:I6 adY ao x0 x1 x2 x3 x4 x5 x6 x7 x8 x9 aG aO aI aT bj A0 A1 A2 A3 A4 b0 b1 b2):aq adY 78 [.slice (some ⟨b0,0,none⟩) 1 1] [ak b0 true ([.slice (some ⟨b1,96,none⟩) 32 32]),Mw b1 x0 x1 A0 b2 x2 A1 (!(x3==0)) x4 x5 x6 A2 A3 A4 (aC x7) (aC x8) x9 aG aO aI aT bj] ao:=
 XO (C:=cx) [.sl 0 (.lit 0) 1 (.lit 1) (.lit 1)] [.row 0 true [.sl 1 (.lit 96) 1 (.lit 32) (.lit 32)],.row 1 true [.int .u8 (.var 0),.int .u8 (.var 1),.aX .u8 8 (.aw 0),.ptr 2 0,.int .u8 (.var 2),.aX .u8 16 (.aw 1),.bool (BE.nz (.var 3)),.int .u8 (.var 4),.int .u8 (.var 5),.int .u8 (.var 6),.aX .u8 32 (.aw 2),.aX .u8 32 (.aw 3),.aX .u8 32 (.aw 4),.cO (.var 7),.cO (.var 8),.int .u64 (.var 9),.int .u64 (.var 10),.int .u64 (.var 11),.int .u64 (.var 12),.int .u64 (.var 13),.int .u32 (.var 14)]] ⟨3,0,15,5,0,0,0⟩ ⟨[x0,x1,x2,x3,x4,x5,x6,x7,x8,x9,aG,aO,aI,aT,bj],[A0,A1,A2,A3,A4],[],[b0,b1,b2],[],[],[],[]⟩ 2 Try.func78 (by kernel_rfl) h
end Go.RX.Dt

namespace Go.RX.Du
open Go.RX Go.Proofs Go.Cp Go.RX.Sh Go.RX.Cs Go.RX.Ct Go.RX.Cu Go.RX.Cw Go.RX.Cy Go.RX.Cz Go.RX.Da
set_option maxRecDepth 100000
abbrev fn(k:LI)(j:Nat):Int:=k.getD j 0
theorem byte{A:Nat→Int}{n:Nat}(h:wa (aJ A 0 n)){j:Nat}(hj:j<n):0≤A j∧A j<256:=by
 refine h _ ?_;rw [aJ,aeu];exact⟨j,adU.2 hj,by rw [Nat.zero_add]⟩
noncomputable def OC(k:LI):LI:=@dite _ (∀j,j<32→0≤fn k j∧fn k j<256) (Classical.propDecidable _) (fun h=>aJ (fun j=>((Sh.bytesOf (comp K0 H0 (Md.CF h).choose) j:Nat):Int)) 0 32) fun _=>[]
theorem TM{A B:Nat→Int}{n:Nat}(h: ∀j,j<n→A j=B j):al .u8 n A=al .u8 n B:=List.map_congr_left fun j hj=>by rw [h j (adU.1 hj)]
theorem TN:IS OC:=by
 intro b1 m hk b3;obtain⟨k,cT⟩: ∃k,k=aJ m.dg 0 32:=⟨_,rfl⟩;have hm: ∀j,j<32→m.dg j=fn k j:=fun j hj=>by rw [cT];exact(mU hj).symm
 have h: ∀j,j<32→0≤fn k j∧fn k j<256:=fun j hj=>by rw [←hm j hj];exact byte hk hj
 have e:cn b1 m=cn b1 {m with dg:=fn k}:=by unfold cn;rw [TM hm]
 have W:OC (aJ m.dg 0 32)=aJ (fun j=>((Sh.bytesOf (comp K0 H0 (Md.CF h).choose) j:Nat):Int)) 0 32:=by
  rw [←cT];exact dif_pos h
 rw [e,W];obtain⟨s1,s2⟩:=(Md.CF h).choose_spec;refine Dt.QW _ m.a m.d m.st m.out m.ac m.pa m.pd m.h_ m.early m.aK m.cf m.since m.heard m.bD m.bq m.dv m.id m.own m.off (fn k) b3 b1 m.dead ?_;unfold Dt.I6
 intros
 refine⟨_,oV,?_⟩;rintro r hs ⟨b,vh,vk,A,B,rfl,rfl,hA,hB⟩;refine⟨b,vh,vk,A,B,rfl,rfl,?_⟩
 intros
 refine⟨_,mY b vh vk _ 64 A B _ K0 H0 _ (by decide) hA I0 hB s1 s2,?_⟩;rintro r hs ⟨A5,rfl,rfl,Zx⟩;refine⟨A5,rfl,rfl,?_⟩
 intros
 exact⟨_,rfl,rfl,List.map_congr_left fun j hj=>by rw [Nat.zero_add];exact RG Zx j (adU.1 hj)⟩
noncomputable def OD(c:Nat):LI:=@dite _ (∃l:LI,l.length=16∧bM l=c) (Classical.propDecidable _) (fun h=>h.choose) fun _=>[]
theorem QX(A:Nat→Int):OD (a_ A)=aJ A 0 16:=by
 have h: ∃l:LI,l.length=16∧bM l=a_ A:=⟨aJ A 0 16,f_ _ _ _,rfl⟩;unfold OD;rw [dif_pos h];exact ln (by rw [h.choose_spec.1,f_]) h.choose_spec.2
abbrev nat(k:LI)(j:Nat):Nat:=(fn k j).toNat
theorem vn{A:Nat→Int}{n:Nat}(h:wa (aJ A 0 n))(j:Nat)(hj:j<n):A j=((nat (aJ A 0 n) j:Nat):Int)∧nat (aJ A 0 n) j<256:=by
 have:=byte h hj;unfold nat fn;rw [mU hj];omega
noncomputable def ud(c:Nat)(k k':LI)(p q:Nat):LI:=aJ (fun j=>((sN (msg (nat (OD c)) (nat k) (nat k') (p/2) (p%2) (q/2) (q%2)) j:Nat):Int)) 0 32
theorem OE:xD ud:=by
 intro I O N a d a' d' hI hO hN ha hd tJ QV;obtain⟨p,rfl⟩:=Int.eq_ofNat_of_zero_le ha.1;obtain⟨q,rfl⟩:=Int.eq_ofNat_of_zero_le hd.1;obtain⟨p',rfl⟩:=Int.eq_ofNat_of_zero_le tJ.1;obtain⟨q',rfl⟩:=Int.eq_ofNat_of_zero_le QV.1;refine(wm I O N (nat (aJ I 0 16)) (nat (aJ O 0 32)) (nat (aJ N 0 32)) p q p' q' (fun j hj=>(vn hI j hj).1) (fun j hj=>(vn hO j hj).1) (fun j hj=>(vn hN j hj).1) (fun j hj=>(vn hI j hj).2) (fun j hj=>(vn hO j hj).2) (fun j hj=>(vn hN j hj).2) (by omega) (by omega) (by omega) (by omega)).post fun rv hs ⟨A,h1,h2,h3⟩=>⟨hs,aD.refl _,A,h1,h2,?_⟩
 unfold ud;rw [QX,show eh (p:Int) q/2=p by unfold eh;omega,show eh (p:Int) q%2=q by unfold eh;omega,show eh (p':Int) q'/2=p' by unfold eh;omega,show eh (p':Int) q'%2=q' by unfold eh;omega];exact List.map_congr_left fun j hj=>by rw [Nat.zero_add];exact h3 j (adU.1 hj)
theorem ok(c:Nat)(k k':LI)(a d:Nat):wa (ud c k k' a d):=by
 intro v hv;simp only [ud,aJ,aeu]at hv;obtain⟨t, -,rfl⟩:=hv;have:=Fj (comp K0 (comp K0 H0 (msg (nat (OD c)) (nat k) (nat k') (a/2) (a%2) (d/2) (d%2))) (fun i=>msg (nat (OD c)) (nat k) (nat k') (a/2) (a%2) (d/2) (d%2) (64+i))) (0+t);unfold sN;omega
theorem XM:u6 ud OC:=⟨OE,TN,ok⟩
end Go.RX.Du
