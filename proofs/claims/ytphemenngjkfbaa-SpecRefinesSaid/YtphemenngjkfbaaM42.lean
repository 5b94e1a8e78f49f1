/- Four devices. -/
import Derived.Test.YtphemenngjkfbaaDfF
import Derived.Test.YtphemenngjkfbaaM38
open Bool renaming and_eq_true → ai
open Classical renaming not_not → agE
open Decidable renaming not_not → agN
open Go.Proofs.Try renaming prog → agQ
open Int renaming toNat → ag
open List renaming append → agw, append_assoc → ahf, append_nil → agL, getD_cons_succ → agY, getD_cons_zero → ah, mem_map → ag9, range → ag5
open Option renaming isSome_iff_exists → ahg
namespace Go.RX.Di
open Go.RX Go.Proofs Go.Cp Go.RX.Cs Go.RX.Ct Go.RX.Cu Go.RX.Cy Go.RX.Cz Go.RX.Dc Go.RX.Df Go.RX.Dg
set_option maxRecDepth 100000
theorem _root_.Go.RX.aB.both{a b c d:List HP}(h:aB a b)(k:aB c d):aB (a++c) (b++d):=aB.trans (aB.frame h c) (aB.trans (aB.perm List.perm_append_comm) (aB.trans (aB.frame k b) (aB.perm List.perm_append_comm)))
theorem _root_.Go.RX.aB.cons{a b:HP}{c d:List HP}(h:aB [a] [b])(k:aB c d):aB (a::c) (b::d):=aB.both h k
abbrev recMap(b:Nat)(Hs Ra:Nat→Int)(k:Nat)(v:V1):HP:=bK b [.u8,.u8] true false ([.slice none 0 0]) (fun i=> !(Hs i==0)) (cc [dC 1 (fun j=>if j=k then v.v else iR (Ra j))])
abbrev Hh(m:Mc LI):Bool:=decide (m.ph≠0)&&m.out
abbrev wE(di:Nat)(m:Mc LI)(t:Nat→Option Nat)(p:Nat→Option LI)(l:List (Ev LI)):Wo LI:=l.foldl (eM di (Hh m)) ⟨t,p,false⟩
abbrev wR(di now:Nat)(d:Nat→Nat→Bool)(b:Bool)(l:List Rc):(Nat→Nat→Bool)×Bool:=l.foldl (vF di now) (d,b)
theorem Ta{di:Nat}{m:Mc LI}{t:Nat→Option Nat}{p:Nat→Option LI}(l:List (Ev LI))(v:Ev LI):wE di m t p (l++[v])=eM di (Hh m) (wE di m t p l) v:=by simp [wE]
theorem Tc{di now:Nat}{d:Nat→Nat→Bool}{b:Bool}(l:List Rc)(v:Rc):wR di now d b (l++[v])=vF di now (wR di now d b l) v:=by simp [wR]
theorem Qb(n:Nat):ag ((n:Int)*16)=n*16:=by omega
theorem Wp(n:Nat):ag ((n:Int)*32)=n*32:=by omega
theorem r16(A:Nat→Int)(s:Nat):(ag5 16).map (aJ A s)=aN A s 16:=rfl
theorem abE{A B:Nat→Int}{s t:Nat}:(∀j,j<32→aJ A s j=aJ B t j)↔aN A s 32=aN B t 32:=G_.symm
theorem JM{di:Nat}(hd:di<4)(b0 b5 b6 b7 b8:Nat)(bm br:Nat→Nat)(vr:V1)(Hs Ra:Nat→Int)(vf ve:V1)(now:Nat)(dl:Int)(bW:List (Mg LI))(A:cI)(hA:fX A bW)(ev:List (Fe LI))(C:cI)(hE:CF C ev)(T1 T2 T3:Nat→Int)(bb:Nat→Option Nat)(hT:rI T1 T2 T3 bb)
  (P1 P2:Nat→Int) (pr:Nat→Option LI) (hP:Hb P1 P2 pr) (D1 D2:Nat→Int) (done:Nat→Nat→Bool) (hD:qh D1 (done di)) (rc:List (Rc×Nat)) (R:cI) (hRc:mz di R rc) (m:Mc LI) (o:List (Mg LI)) (e:List (Ev LI)) (r:List Rc) (x:KO di now o e r)
  (h1:bW.length+o.length≤1000000000) (h2:ev.length+e.length≤1000000000) (h3:rc.length+r.length≤1000000000):
  au agQ 101 [.pointer (some ⟨b0,0,none⟩),.int .i64 (s4 di 0 1 2 3),.agg #[x.v0.v,x.v1.v,x.v2.v]]
   ([gl b0 (now:Int) dl bm vf ve b5 b6 b7 b8 false,aC true 216 59 vf.v bW.length (aT bW.length (rG A)),aC true 76 56 ve.v ev.length (aT ev.length (ER C)),
    bK b5 oP true true ([.int .u8 0,.int .u8 0]) (fun i=> !(T1 i==0)) (cc [ax .u8 1 T2,ax .u8 1 T3]),bK b6 oP true true (agw (ak .u8 32 (fun _=>0)) ([])) (fun i=> !(P1 i==0)) (cc [ax .u8 32 P2]),qi b7 br,recMap b8 Hs Ra (s4 di 18 84 162 660) vr,
    bK (br di) oP true false ([.int .u8 0]) (fun i=> !(D1 i==0)) (cc [ax .u8 1 D2]),aC true 85 22 vr.v rc.length (aT rc.length (yZ R)),cJ (bm di) di m]++jb x)
   fun rv hs=>rv= .tuple #[]∧∃(fI fE v':V1) (RA:Nat→Int),hs=[gl b0 (now:Int) dl bm fI fE b5 b6 b7 b8 (wR di now done (wE di m bb pr e).bad r).2,df fI (bW++o),rH fE (ev++e.map fun v=>⟨di,now,v⟩) (ev.length+e.length),uz b5 (wE di m bb pr e).bb,Jr b6 (wE di m bb pr e).pr,
    qi b7 br,recMap b8 RA Ra (s4 di 18 84 162 660) v',iP (br di) ((wR di now done (wE di m bb pr e).bad r).1 di),dF v' di (rc++r.map fun v=>(v,now)) (rc.length+r.length),cJ (bm di) di m]:=by
 refine au.post (p:=fun rv hs=>rv= .tuple #[]∧∃(fI fE v':V1) (RA:Nat→Int),aB hs [gl b0 (now:Int) dl bm fI fE b5 b6 b7 b8 (wR di now done (wE di m bb pr e).bad r).2,df fI (bW++o),rH fE (ev++e.map fun v=>⟨di,now,v⟩) (ev.length+e.length),uz b5 (wE di m bb pr e).bb,Jr b6 (wE di m bb pr e).pr,
    qi b7 br,recMap b8 RA Ra (s4 di 18 84 162 660) v',iP (br di) ((wR di now done (wE di m bb pr e).bad r).1 di),dF v' di (rc++r.map fun v=>(v,now)) (rc.length+r.length),cJ (bm di) di m]) ?_ fun rv hs ⟨k1,fI,fE,v',RA,k2⟩=>⟨_,k2,k1,fI,fE,v',RA,rfl⟩
 have hm:=fun aq=>NN di hd aq (now:Int) dl 0 (bW.length:Int) (ev.length:Int) (rc.length:Int) (o.length:Int) (e.length:Int) (r.length:Int) (A 0) (A 1) (A 2) (A 3) (A 4) (A 5) (A 6) (A 7) (A 8) (A 9) (A 10) (A 11) (C 0) (C 1) (C 2) (C 3) (C 4) (C 5) (C 6) (C 7) (C 8) (C 9) (x.Ao 0) (x.Ao 1) (x.Ao 2) (x.Ao 3) (x.Ao 4) (x.Ao 5) (x.Ao 6) (x.Ao 7) (x.Ao 8) (x.Ao 9) (x.Ae 0) (x.Ae 1) (x.Ae 2) (x.Ae 3) (x.Ae 4) (x.Ae 5) (x.Ae 6) (x.Ae 7) (x.Ae 8) (x.Ae 9) (x.Ar 0) (x.Ar 1) (x.Ar 2) (x.Ar 3) (x.Ar 4) (x.Ar 5) (x.Ar 6) T1 T2 T3 P1 P2 D1 D2 (R 0) (R 1) (R 2) (R 3) (R 4) (R 5) (R 6) Hs Ra vf ve vr vr vr vr x.v0 x.v1 x.v2 b0 (bm 0) (bm 1) (bm 2) (bm 3) b5 b6 b7 b8 (br 0) (br 1) (br 2) (br 3) (cJ (bm di) di m)
 simp only [Bs hd br,Int.toNat_natCast]at hm;refine hm _ ?_;clear hm;unfold oS;obtain⟨sd0,sd1, -⟩:=EY hd;simp only [Bs hd bm,Bs hd br,sd0,sd1,r16];intro qC;refine⟨by omega,fun _=>⟨fun k=>0≤k.i.getD 0 0∧k.i.getD 0 0≤o.length∧k.i.getD 1 0=bW.length+k.i.getD 0 0∧fX (fun c=>k.a.getD c (fun _=>0)) (bW++o.take (k.i.getD 0 0).toNat),fun k=>(o.length - k.i.getD 0 0).toNat,⟨_,_,_,A 0,A 1,A 2,A 3,A 4,A 5,A 6,A 7,A 8,A 9,A 10,A 11,rfl,rfl,rfl,rfl,fun _ _=>rfl,fun _ _=>rfl,fun _ _=>rfl,fun _ _=>rfl,fun _ _=>rfl,fun _ _=>rfl,fun _ _=>rfl,fun _ _=>rfl,fun _ _=>rfl,fun _ _=>rfl,fun _ _=>rfl,fun _ _=>trivial,fun _ _=>rfl,?_⟩,?_⟩⟩
 ·refine⟨Int.le_refl _,by simp,by simp,?_⟩;simp only [ah,Int.toNat_zero,List.take_zero,agL];exact hA.congr rfl rfl rfl rfl rfl rfl rfl rfl
 rintro v9 x9 aO H7 HM HN FF HO HQ HR HS H8 H9 HT HU ⟨k1,k2,k3,k4⟩;simp only [ah,agY]at k1 k2 k3 k4;obtain⟨n,rfl⟩:=Int.eq_ofNat_of_zero_le k1;have k5:aO=((bW.length+n:Nat):Int):=by omega
 subst k5;simp only [Qb,Wp,Int.toNat_natCast]at k4 ⊢;refine⟨fun cZ=>⟨k1,fun _=>?_⟩,fun uJ=>?_⟩
 ·intro zo EL BX Rv;refine⟨by omega,fun _=>⟨by omega,fun _=>fun v10=>⟨by omega,fun _=>⟨by omega,fun _=>⟨_,_,_,_,_,_,_,_,_,_,_,_,_,_,_,rfl,rfl,rfl,rfl,fun _ _=>rfl,fun _ _=>rfl,fun _ _=>rfl,fun _ _=>rfl,fun _ _=>rfl,fun _ _=>rfl,fun _ _=>rfl,fun _ _=>rfl,fun _ _=>rfl,fun _ _=>rfl,fun _ _=>rfl,fun _ _=>trivial,fun _ _=>rfl,⟨?_,?_,?_,?_⟩,?_⟩⟩⟩⟩⟩
  ·simp only [ah];omega
  ·simp only [ah];omega
  ·simp only [ah,agY];omega
  ·have hn:n<o.length:=by omega
   simp only [ah,show((n:Int)+1).toNat=n+1 by omega];rw [vQ x.ho hn,←ahf];have q:=x.hd n hn;refine fX.push (A:=fun c=>[H7,HM,HN,FF,HO,HQ,HR,HS,H8,H9,HT,HU].getD c (fun _=>0)) (N:=bW.length+n) k4 hd (by simp;omega) (x.Ao 0 n) (x.Ao 1 n) (x.Ao 2 n) (x.Ao 9 n) (aJ (x.Ao 3) (n*16)) (aJ (x.Ao 7) (n*32)) (by omega) (by omega) (by omega) rfl rfl rfl rfl rfl rfl rfl rfl ?_;simp only [GW,ib]
  ·simp only [ah];omega
 have k6:n=o.length:=by omega
 subst k6;rw [List.take_length]at k4
 iterate 4 refine⟨by omega,fun _=>?_⟩
 refine fun v10=>⟨fun k=>0≤k.i.getD 0 0∧k.i.getD 0 0≤e.length∧rI (k.a.getD 0 (fun _=>0)) (k.a.getD 1 (fun _=>0)) (k.a.getD 2 (fun _=>0)) (wE di m bb pr (e.take (k.i.getD 0 0).toNat)).bb∧Hb (k.a.getD 3 (fun _=>0)) (k.a.getD 4 (fun _=>0)) (wE di m bb pr (e.take (k.i.getD 0 0).toNat)).pr∧k.bo.getD 0 false=(wE di m bb pr (e.take (k.i.getD 0 0).toNat)).bad,fun k=>(e.length - k.i.getD 0 0).toNat,⟨_,_,_,_,_,_,_,rfl,rfl,rfl,rfl,rfl,rfl,rfl,?_⟩,?_⟩
 ·exact⟨Int.le_refl _,by simp,hT,hP,rfl⟩
 rintro aQ yK y7 y8 y9 zB q0 ⟨j1,j2,j3,j4,j5⟩;simp only [ah,agY]at j1 j2 j3 j4 j5;obtain⟨n,rfl⟩:=Int.eq_ofNat_of_zero_le j1;simp only [Qb,Wp,Int.toNat_natCast]at j3 j4 j5 ⊢;subst j5;refine⟨fun cZ=>⟨j1,fun _=>?_⟩,fun uJ=>?_⟩
 ·intro zo;have hn:n<e.length:=by omega
  have hq:=x.hp n hn;have hw:=Ta (di:=di) (m:=m) (t:=bb) (p:=pr) (e.take n) (qe x.Ae n);rw [←vQ x.he hn]at hw;have e3:(qe x.Ae n).k=(x.Ae 0 n).toNat:=rfl;have ec:bG (aN (x.Ae 4) (n*16) 16)=(qe x.Ae n).c:=rfl;have ep:fH (x.Ae 6 n) (x.Ae 7 n)=(qe x.Ae n).peer:=rfl;have ek:aN (aJ (x.Ae 8) (n*32)) 0 32=(qe x.Ae n).key:=ib _ _ _;have ek2:aN (x.Ae 8) (n*32) 32=(qe x.Ae n).key:=rfl;refine⟨_,Dh.Jp (bm di) di m,?_⟩;rintro v hs ⟨⟨Ac,p,d,q1,rfl,Wq, -⟩,rfl⟩;refine⟨p,d,Ac,q1,rfl,rfl,?_⟩;intro EL BX;simp only [ec,abE,ek2];have Bu:((n:Int)+1).toNat=n+1:=by omega
  generalize wE di m bb pr (e.take n)=w at j3 j4 hw ⊢;generalize hv:qe x.Ae n=ev at hw e3 ec ep ek ek2 ⊢;refine⟨fun c3=>fun Rv=>⟨by omega,fun _=>⟨by omega,fun _=>⟨_,_,_,_,_,_,_,rfl,rfl,rfl,rfl,rfl,rfl,rfl,⟨by simp only [ah];omega,by simp only [ah];omega,?_⟩,by simp only [ah];omega⟩⟩⟩,fun c3=>⟨fun c4=>fun Rv=>⟨fun c5=>fun Ry Cj=>⟨by omega,fun _=>⟨by omega,fun _=>⟨_,_,_,_,_,_,_,rfl,rfl,rfl,rfl,rfl,rfl,rfl,⟨by simp only [ah];omega,by simp only [ah];omega,?_⟩,by simp only [ah];omega⟩⟩⟩,fun c5=>⟨by omega,fun _=>⟨by omega,fun _=>⟨_,_,_,_,_,_,_,rfl,rfl,rfl,rfl,rfl,rfl,rfl,⟨by simp only [ah];omega,by simp only [ah];omega,?_⟩,by simp only [ah];omega⟩⟩⟩⟩,fun c4=>⟨by omega,fun _=>⟨by omega,fun _=>⟨_,_,_,_,_,_,_,rfl,rfl,rfl,rfl,rfl,rfl,rfl,⟨by simp only [ah];omega,by simp only [ah];omega,?_⟩,by simp only [ah];omega⟩⟩⟩⟩⟩
  ·have f1:ev.k=3:=by omega
   have f2:Hh m=true:=Wq.symm.trans c3.2;simp only [ah,agY,Bu];rw [hw,eM,if_pos ⟨f1,f2⟩];refine⟨ep▸j3.put ev.c (by omega) (by omega),j4,?_⟩;have:=j3.h ev.c;by_cases f3:yK ev.c=0
   ·have f4: ¬(w.bb ev.c).isSome=true:=fun h=>(this.2 h) f3
    simp [f3,f4]
   ·simp [f3,this.1 f3]
  ·have f1:ev.k=4:=by omega
   simp only [ah,agY,Bu];rw [hw,eM,if_neg (by omega),if_pos f1];refine⟨j3,j4.put ev.c _ ek,?_⟩;obtain⟨g1,g2⟩:=not_or.1 c5;have g3:w.bad=false:=by simpa using g1
   have g4:(w.pr ev.c).any (· ≠ev.key)=false:=by
    cases hp:w.pr ev.c with
    | none=>rfl
    | some k=>
     have g5:y9 ev.c≠0:=(j4.h ev.c).2 (by rw [hp];rfl);have g6:=agN.1 (fun h=>g2 ⟨g5,h⟩);rw [j4.v ev.c k hp]at g6;simp [g6]
   rw [g3,g4,Wq];have g7:=j3.v ev.c;have g8:=j3.b ev.c;have g9:=j3.c ev.c;have g10:(y7 ev.c==((di/2:Nat):Int)&&y8 ev.c==((di%2:Nat):Int))=decide ((w.bb ev.c).getD 0=di):=by
    rw [←g7,Bool.eq_iff_iff];simp only [ai,beq_iff_eq,decide_eq_true_eq,fH];omega
   rw [g10];simp
  ·have f1:ev.k=4:=by omega
   simp only [ah,agY,Bu];rw [hw,eM,if_neg (by omega),if_pos f1];refine⟨j3,j4.put ev.c _ ek,?_⟩;rcases agE.1 c5 with g1 | ⟨g1,g2⟩
   ·simp [g1]
   ·have g3:=(j4.h ev.c).1 g1;obtain⟨k,hk⟩:=ahg.1 g3;rw [j4.v ev.c k hk]at g2;simp [hk,g2]
  ·simp only [ah,agY,Bu];have f1: ¬(ev.k=3∧Hh m=true):=fun h=>c3 ⟨by omega,by rw [Wq];exact h.2⟩
   rw [hw,eM,if_neg f1,if_neg (by omega)];exact⟨j3,j4,rfl⟩
 have j6:n=e.length:=by omega
 subst j6;rw [List.take_length]at j3 j4 ⊢;refine⟨by omega,fun _=>⟨fun k=>0≤k.i.getD 0 0∧k.i.getD 0 0≤r.length∧k.i.getD 1 0=rc.length+k.i.getD 0 0∧mz di (fun c=>k.a.getD (2+c) (fun _=>0)) (rc++(r.take (k.i.getD 0 0).toNat).map fun v=>(v,now))∧qh (k.a.getD 0 (fun _=>0)) ((wR di now done (wE di m bb pr e).bad (r.take (k.i.getD 0 0).toNat)).1 di)∧k.bo.getD 0 false=(wR di now done (wE di m bb pr e).bad (r.take (k.i.getD 0 0).toNat)).2,fun k=>(r.length - k.i.getD 0 0).toNat,⟨_,_,_,_,_,_,_,_,_,_,_,_,_,_,rfl,rfl,rfl,rfl,rfl,rfl,rfl,rfl,fun _ _=>rfl,fun _ _=>rfl,fun _ _=>rfl,fun _ _=>rfl,fun _ _=>rfl,fun _ _=>rfl,fun _ _=>rfl,?_⟩,?_⟩⟩
 ·refine⟨Int.le_refl _,by simp,by simp,?_,hD,rfl⟩;simp only [ah,Int.toNat_zero,List.take_zero,List.map_nil,agL];exact⟨hRc.e,hRc.f⟩
 rintro v11 aM aR wz D_ CP CQ BY CR CS CT CU Lt q1 ⟨i1,i2,i3,i0,i4,i5⟩;simp only [ah,agY]at i1 i2 i3 i0 i4 i5;obtain⟨n,rfl⟩:=Int.eq_ofNat_of_zero_le i1;have i6:aR=((rc.length+n:Nat):Int):=by omega
 subst i6;simp only [Qb,Int.toNat_natCast]at i0 i4 i5 ⊢;subst i5;refine⟨fun cZ=>⟨i1,fun _=>?_⟩,fun uJ=>?_⟩
 ·have hn:n<r.length:=by omega
  have hq:=x.hn n hn;have hw:=Tc (di:=di) (now:=now) (d:=done) (b:=(wE di m bb pr e).bad) (r.take n) (nJ x.Ar n);rw [←vQ x.hr hn]at hw;have ec:bG (aN (x.Ar 0) (n*16) 16)=(nJ x.Ar n).c:=rfl;have eb:(nJ x.Ar n).aP=(x.Ar 4 n).toNat:=rfl;have Bu:((n:Int)+1).toNat=n+1:=by omega
  have fin: ∀b:Bool,b=((((wR di now done (wE di m bb pr e).bad (r.take n)).2||(!(wz (nJ x.Ar n).c==0)))||(!(x.Ar 6 n==(now:Int))))||(decide (x.Ar 6 n<x.Ar 4 n)))→qh (aj wz (nJ x.Ar n).c 1) ((wR di now done (wE di m bb pr e).bad (r.take (n+1))).1 di)∧b=(wR di now done (wE di m bb pr e).bad (r.take (n+1))).2:=by
   intro b hb;rw [hw,vF];generalize wR di now done (wE di m bb pr e).bad (r.take n)=w at i4 hb ⊢;refine⟨i4.put _,?_⟩;rw [hb,hq.1];have g1:=i4 (nJ x.Ar n).c;have g2:(!(wz (nJ x.Ar n).c==0))=w.1 di (nJ x.Ar n).c:=by
    rw [Bool.eq_iff_iff,←g1];simp
   have g3:decide ((now:Int)<x.Ar 4 n)=decide (now<(nJ x.Ar n).aP):=by
    rw [eb,Bool.eq_iff_iff,decide_eq_true_eq,decide_eq_true_eq];omega
   rw [g2,g3];simp
  have fr: ∀B:cI,B 0=aG CP ((rc.length+n)*16) 16 (aJ (x.Ar 0) (n*16))→B 1=aj CQ (rc.length+n) (x.Ar 1 n)→B 2=aj BY (rc.length+n) (x.Ar 2 n)→B 3=aj CR (rc.length+n) (x.Ar 3 n)→B 4=aj CS (rc.length+n) (x.Ar 4 n)→B 5=aj CT (rc.length+n) (x.Ar 5 n)→B 6=aj CU (rc.length+n) (x.Ar 6 n)→mz di B (rc++(r.take (n+1)).map fun v=>(v,now)):=by
   intro B g0 g1 g2 g3 g4 g5 g6;rw [vQ x.hr hn,List.map_append,←ahf];exact i0.push x hn (by simp;omega) g0 g1 g2 g3 g4 g5 g6
  intro zo EL BX Rv Ry;refine⟨fun Cj yX=>⟨fun W9 Rz W_=>?_,fun W9 Rz W_=>?_⟩,fun Cj yX W9 Rz W_=>?_⟩
  all_goals
   simp only [ec];refine⟨by omega,fun _=>⟨by omega,fun _=>fun CV=>⟨by omega,fun _=>⟨by omega,fun _=>⟨_,_,_,_,_,_,_,_,_,_,_,_,_,_,rfl,rfl,rfl,rfl,rfl,rfl,rfl,rfl,fun _ _=>rfl,fun _ _=>rfl,fun _ _=>rfl,fun _ _=>rfl,fun _ _=>rfl,fun _ _=>rfl,fun _ _=>rfl,⟨?_,?_,?_,?_,?_⟩,?_⟩⟩⟩⟩⟩
   ·simp only [ah];omega
   ·simp only [ah];omega
   ·simp only [ah,agY];omega
   ·simp only [ah,Bu];exact fr _ rfl rfl rfl rfl rfl rfl rfl
   ·simp only [ah,Bu];exact fin _ rfl
   ·simp only [ah];omega
 have i7:n=r.length:=by omega
 subst i7;rw [List.take_length]at i0 i4 ⊢;refine⟨trivial,v9,v10,v11,Lt,?_⟩;have efl:(bW++o).length=bW.length+o.length:=by simp
 rw [show((ev.length:Int)+(e.length:Int)).toNat=ev.length+e.length by omega];refine aB.cons (aB.refl _) (aB.cons ?_ (aB.cons ?_ (aB.cons ?_ (aB.cons ?_ (aB.cons (aB.refl _) (aB.cons (aB.refl _) (aB.cons ?_ (aB.cons ?_ (aB.sub (by simp))))))))))
 ·rw [←efl];exact aB.ex (F:=fun A:{A:cI // fX A (bW++o)}=>aC true 216 59 v9.v (bW++o).length (aT (bW++o).length (rG A.1))) ⟨_,k4⟩ rfl
 ·have eel:(ev++e.map fun v=>(⟨di,now,v⟩:Fe LI)).length=ev.length+e.length:=by simp
  rw [←eel];exact aB.ex (F:=fun A:{A:cI // CF A (ev++e.map fun v=>(⟨di,now,v⟩:Fe LI))∧(ev++e.map fun v=>(⟨di,now,v⟩:Fe LI)).length≤(ev++e.map fun v=>(⟨di,now,v⟩:Fe LI)).length}=>aC true 76 56 v10.v (ev++e.map fun v=>(⟨di,now,v⟩:Fe LI)).length (aT (ev++e.map fun v=>(⟨di,now,v⟩:Fe LI)).length (ER A.1))) ⟨fun c=>[aG (C 0) ev.length e.length (x.Ae 0),aG (C 1) ev.length e.length (x.Ae 1),aG (C 2) ev.length e.length (x.Ae 2),aG (C 3) ev.length e.length (x.Ae 3),aG (C 4) (ev.length*16) (e.length*16) (x.Ae 4),aG (C 5) ev.length e.length (x.Ae 5),aG (C 6) ev.length e.length (x.Ae 6),aG (C 7) ev.length e.length (x.Ae 7),aG (C 8) (ev.length*32) (e.length*32) (x.Ae 8),aG (C 9) ev.length e.length (x.Ae 9)].getD c (fun _=>0),hE.append hd x rfl rfl rfl rfl rfl rfl rfl rfl rfl rfl,Nat.le_refl _⟩ rfl
 ·exact aB.ex (F:=fun x:{x:(Nat→Int)×(Nat→Int)×(Nat→Int) // rI x.1 x.2.1 x.2.2 (wE di m bb pr e).bb}=>bK b5 oP true true ([.int .u8 0,.int .u8 0]) (fun i=> !(x.1.1 i==0)) (cc [ax .u8 1 x.1.2.1,ax .u8 1 x.1.2.2])) ⟨(yK,y7,y8),j3⟩ rfl
 ·exact aB.ex (F:=fun x:{x:(Nat→Int)×(Nat→Int) // Hb x.1 x.2 (wE di m bb pr e).pr}=>bK b6 oP true true (agw (ak .u8 32 (fun _=>0)) ([])) (fun i=> !(x.1.1 i==0)) (cc [ax .u8 32 x.1.2])) ⟨(y9,zB),j4⟩ rfl
 ·exact aB.ex (F:=fun x:{x:(Nat→Int)×(Nat→Int) // qh x.1 ((wR di now done (wE di m bb pr e).bad r).1 di)}=>bK (br di) oP true false ([.int .u8 0]) (fun i=> !(x.1.1 i==0)) (cc [ax .u8 1 x.1.2])) ⟨(wz,D_),i4⟩ rfl
 ·have erl:(rc++r.map fun v=>(v,now)).length=rc.length+r.length:=by simp
  rw [←erl];exact aB.ex (F:=fun A:{A:cI // mz di A (rc++r.map fun v=>(v,now))∧(rc++r.map fun v=>(v,now)).length≤(rc++r.map fun v=>(v,now)).length}=>aC true 85 22 v11.v (rc++r.map fun v=>(v,now)).length (aT (rc++r.map fun v=>(v,now)).length (yZ A.1))) ⟨_,i0,Nat.le_refl _⟩ rfl
end Go.RX.Di

namespace Go.RX
theorem au.CG{α:Type}{F:α→HP}{P:Program}{f:Nat}{args:List Value}(l r:List HP){post:Value→List HP→Prop}(h: ∀a,au P f args (l++F a::r) post):au P f args (l++HP.ex F::r) post:=
 au.pre (au.ex (R:=l++r) fun a=>au.pre (h a) (aB.perm List.perm_middle.symm)) (aB.perm List.perm_middle)
theorem M9{t s n:Nat}{v:Value}{cs:List Value}{Fs:List HP}{w:World}(h:aU (aC true t s v n cs::Fs) w): ∃e:Int,v=iR e:=by
 obtain⟨S,hS⟩:=h;obtain⟨⟨ho,_⟩,_⟩:=hS.at_ 0 _ rfl;simp only [if_true]at ho;rcases ho.2 with⟨rfl,_⟩ | ⟨g,o,cap,cur,rfl,_⟩
 ·exact⟨0,rfl⟩
 ·exact⟨U1 g o n cap,(LF g o n cap).symm⟩
end Go.RX
namespace Go.RX.Dj
open Go.RX Go.Proofs Go.Cp Go.RX.Cs Go.RX.Ct Go.RX.Cu Go.RX.Cy Go.RX.Cz Go.RX.Dc Go.RX.Df Go.RX.Dg Go.RX.Di
set_option maxRecDepth 100000
def oR(e:Int):V1:=⟨iR e,uR e⟩
def mn(ra:Nat→Int)(j:Nat):Int:=if j=18 then ra 0 else if j=84 then ra 1 else if j=162 then ra 2 else if j=660 then ra 3 else 0
def oJ(b:Nat)(ra:Nat→Int):HP:=HP.ex fun Hs:Nat→Int=>bK b [.u8,.u8] true false ([.slice none 0 0]) (fun i=> !(Hs i==0)) (cc [dC 1 (fun j=>iR (mn ra j))])
theorem vS{di:Nat}(hd:di<4)(ra:Nat→Int)(e:Int):(fun j=>iR (mn (bP ra di e) j))=fun j=>if j=s4 di 18 84 162 660 then(oR e).v else iR (mn ra j):=by
 funext j
 match di,hd with
 | 0,_=>by_cases h:j=18<;>simp [mn,bP,oR,s4,h]
 | 1,_=>by_cases h:j=84<;>simp [mn,bP,oR,s4,h]
 | 2,_=>by_cases h:j=162<;>simp [mn,bP,oR,s4,h]
 | 3,_=>by_cases h:j=660<;>simp [mn,bP,oR,s4,h]
abbrev rJ(br:Nat→Nat)(ra:Nat→Int)(done:Nat→Nat→Bool)(rc:Nat→List (Rc×Nat))(B:Nat):List HP:=[iP (br 0) (done 0),dF (oR (ra 0)) 0 (rc 0) B,iP (br 1) (done 1),dF (oR (ra 1)) 1 (rc 1) B,iP (br 2) (done 2),dF (oR (ra 2)) 2 (rc 2) B,iP (br 3) (done 3),dF (oR (ra 3)) 3 (rc 3) B]
def gm(di:Nat)(br:Nat→Nat)(ra:Nat→Int)(done:Nat→Nat→Bool)(rc:Nat→List (Rc×Nat))(B:Nat):List HP:=
 let p:Nat→List HP:=fun k=>[iP (br k) (done k),dF (oR (ra k)) k (rc k) B]
 s4 di (p 1++(p 2++p 3)) (p 0++(p 2++p 3)) (p 0++(p 1++p 3)) (p 0++(p 1++p 2))
theorem K8{v:V1}{i:Nat}{l:List (Rc×Nat)}{B B':Nat}(h:B≤B'):aB [dF v i l B] [dF v i l B']:=
 aB.uy fun x=>aB.ex (F:=fun A:{A:cI // mz i A l∧l.length≤B'}=>aC true 85 22 v.v l.length (aT l.length (yZ A.1))) ⟨x.1,x.2.1,Nat.le_trans x.2.2 h⟩ rfl
theorem Qc{v:V1}{l:List (Fe LI)}{B B':Nat}(h:B≤B'):aB [rH v l B] [rH v l B']:=
 aB.uy fun x=>aB.ex (F:=fun A:{A:cI // CF A l∧l.length≤B'}=>aC true 76 56 v.v l.length (aT l.length (ER A.1))) ⟨x.1,x.2.1,Nat.le_trans x.2.2 h⟩ rfl
theorem fJ{b i:Nat}{d:Nat→Bool}{v:V1}{l:List (Rc×Nat)}{B B':Nat}(h:B≤B'){L L':List HP}(k:aB L L'):aB (iP b d::dF v i l B::L) (iP b d::dF v i l B'::L'):=aB.cons (aB.refl _) (aB.cons (K8 h) k)
variable {di:Nat} {br:Nat→Nat} {ra:Nat→Int} {done:Nat→Nat→Bool} {rc:Nat→List (Rc×Nat)} {ev:List (Fe LI)} {B:Nat}
theorem M_(hd:di<4){B':Nat}(h:B≤B'):aB (gm di br ra done rc B) (gm di br ra done rc B'):=by
 match di,hd with
 | 0,_=>exact fJ h (fJ h (fJ h (aB.refl _)))
 | 1,_=>exact fJ h (fJ h (fJ h (aB.refl _)))
 | 2,_=>exact fJ h (fJ h (fJ h (aB.refl _)))
 | 3,_=>exact fJ h (fJ h (fJ h (aB.refl _)))
theorem pull(hd:di<4):aB (rJ br ra done rc B) ([iP (br di) (done di),dF (oR (ra di)) di (rc di) B]++gm di br ra done rc B):=by
 match di,hd with
 | 0,_=>exact gW [0,1,2,3,4,5,6,7] (by decide) rfl
 | 1,_=>exact gW [2,3,0,1,4,5,6,7] (by decide) rfl
 | 2,_=>exact gW [4,5,0,1,2,3,6,7] (by decide) rfl
 | 3,_=>exact gW [6,7,0,1,2,3,4,5] (by decide) rfl
theorem push(hd:di<4){d1:Nat→Nat→Bool}(h1: ∀k,k≠di→d1 k=done k){Z5:Nat→List (Rc×Nat)}(h2: ∀k,k≠di→Z5 k=rc k)(e:Int):aB ([iP (br di) (d1 di),dF (oR e) di (Z5 di) B]++gm di br ra done rc B) (rJ br (bP ra di e) d1 Z5 B):=by
 match di,hd with
 | 0,_=>exact gW [0,1,2,3,4,5,6,7] (by decide) (by rw [rJ,h1 1 (by decide),h1 2 (by decide),h1 3 (by decide),h2 1 (by decide),h2 2 (by decide),h2 3 (by decide)];rfl)
 | 1,_=>exact gW [2,3,0,1,4,5,6,7] (by decide) (by rw [rJ,h1 0 (by decide),h1 2 (by decide),h1 3 (by decide),h2 0 (by decide),h2 2 (by decide),h2 3 (by decide)];rfl)
 | 2,_=>exact gW [2,3,4,5,0,1,6,7] (by decide) (by rw [rJ,h1 0 (by decide),h1 1 (by decide),h1 3 (by decide),h2 0 (by decide),h2 1 (by decide),h2 3 (by decide)];rfl)
 | 3,_=>exact gW [2,3,4,5,6,7,0,1] (by decide) (by rw [rJ,h1 0 (by decide),h1 1 (by decide),h1 2 (by decide),h2 0 (by decide),h2 1 (by decide),h2 2 (by decide)];rfl)
theorem Qd(hd:di<4){d1:Nat→Nat→Bool}(h1: ∀k,k≠di→d1 k=done k){l:List (Rc×Nat)}(e:Int):aB ([iP (br di) (d1 di),dF (oR e) di l B]++gm di br ra done rc B) (rJ br (bP ra di e) d1 (bP rc di l) B):=by
 have h:=push (br:=br) (ra:=ra) (rc:=rc) (B:=B) hd h1 (Z5:=bP rc di l) (fun k hk=>cg _ _ hk) e
 rwa [bj]at h
theorem Qe{now:Nat}{b:Bool}(l:List Rc){k:Nat}(hk:k≠di):(wR di now done b l).1 k=done k:=by
 unfold wR
 induction l generalizing done b with
 | nil=>rfl
 | cons v l ih=>
  rw [List.foldl_cons,vF,ih];funext c;simp [jZ,hk]
abbrev qu(ve:V1)(b5 b6 b7 b8:Nat)(bb:Nat→Option Nat)(pr:Nat→Option LI)(done:Nat→Nat→Bool)(ev:List (Fe LI))(rc:Nat→List (Rc×Nat))(B:Nat)(br:Nat→Nat)(ra:Nat→Int):List HP:=[rH ve ev B,uz b5 bb,Jr b6 pr,qi b7 br,oJ b8 ra]++rJ br ra done rc B
def oK(ve:V1)(b5 b6 b7 b8:Nat)(bb:Nat→Option Nat)(pr:Nat→Option LI)(done:Nat→Nat→Bool)(ev:List (Fe LI))(rc:Nat→List (Rc×Nat))(B:Nat):HP:=HP.ex fun x:(Nat→Nat)×(Nat→Int)=>HP.star (qu ve b5 b6 b7 b8 bb pr done ev rc B x.1 x.2)
theorem Qf{ve:V1}{b5 b6 b7 b8:Nat}{bb:Nat→Option Nat}{pr:Nat→Option LI}: ∀h∈qu ve b5 b6 b7 b8 bb pr done ev rc B br ra,h.wr=true:=by
 intro h hh;simp only [qu,List.cons_append,List.nil_append,List.mem_cons,List.not_mem_nil,or_false]at hh;rcases hh with rfl | rfl | rfl | rfl | rfl | rfl | rfl | rfl | rfl | rfl | rfl | rfl | rfl<;>rfl
theorem xr{ve:V1}{b5 b6 b7 b8:Nat}{bb:Nat→Option Nat}{pr:Nat→Option LI}:aB (qu ve b5 b6 b7 b8 bb pr done ev rc B br ra) [oK ve b5 b6 b7 b8 bb pr done ev rc B]:=
 aB.trans (aB.star Qf) (aB.ex (F:=fun x:(Nat→Nat)×(Nat→Int)=>HP.star (qu ve b5 b6 b7 b8 bb pr done ev rc B x.1 x.2)) (br,ra) rfl)
theorem Na{v:V1}{i:Nat}{l:List (Rc×Nat)}{R L:List HP}(h: ∀e,v=oR e→aB (dF v i l B::R) L):aB (dF v i l B::R) L:=fun w Fs own=>by
 obtain⟨x,hx⟩:=aU.uy (R:=R++Fs) own;obtain⟨e,he⟩:=M9 hx;obtain⟨v,hv⟩:=v;simp only at he;subst he;exact h e rfl w Fs own
theorem Hi(hd:di<4)(b0 b5 b6 b7 b8:Nat)(bm:Nat→Nat)(vf ve v0 v1 v2:V1)(now:Nat)(dl:Int)(bW:List (Mg LI))(bb:Nat→Option Nat)(pr:Nat→Option LI)(m:Mc LI)(o:List (Mg LI))(e:List (Ev LI))(r:List Rc)
  (h1:bW.length+o.length≤1000000000) (hB:B≤900000000) (h2:e.length≤4) (h3:r.length≤4):
  au agQ 101 [.pointer (some ⟨b0,0,none⟩),.int .i64 (di:Int),.agg #[v0.v,v1.v,v2.v]]
   [gl b0 (now:Int) dl bm vf ve b5 b6 b7 b8 false,df vf bW,oK ve b5 b6 b7 b8 bb pr done ev rc B,cJ (bm di) di m,eX v0 v1 v2 di now o e r]
   fun rv hs=>rv= .tuple #[]∧∃fI fE:V1,hs=[gl b0 (now:Int) dl bm fI fE b5 b6 b7 b8 (wR di now done (wE di m bb pr e).bad r).2,df fI (bW++o),oK fE b5 b6 b7 b8 (wE di m bb pr e).bb (wE di m bb pr e).pr (wR di now done (wE di m bb pr e).bad r).1 (ev++e.map fun v=>⟨di,now,v⟩) (bP rc di (rc di++r.map fun v=>(v,now))) (B+4),cJ (bm di) di m]:=by
 refine au.CG [_] [_,_,_] fun A=>?_
 refine au.CG [_,_] [_,_] fun x=>?_
 obtain⟨br,ra⟩:=x;refine au.CG [_,_,_,_] [] fun x=>?_
 obtain⟨x,rfl,rfl,rfl⟩:=x;refine au.pre (Ik:=[gl b0 (now:Int) dl bm vf ve b5 b6 b7 b8 false,aC true 216 59 vf.v bW.length (aT bW.length (rG A.1)),rH ve ev B,uz b5 bb,Jr b6 pr,qi b7 br,oJ b8 ra,iP (br di) (done di),dF (oR (ra di)) di (rc di) B,cJ (bm di) di m]++(jb x++gm di br ra done rc B)) ?_ ?_
 ·refine au.CG [_,_] (_::_::_::_::_::_::_::(jb x++gm di br ra done rc B)) fun C=>?_
  refine au.CG [_,_,_] (_::_::_::_::_::_::(jb x++gm di br ra done rc B)) fun T=>?_
  refine au.CG [_,_,_,_] (_::_::_::_::_::(jb x++gm di br ra done rc B)) fun P=>?_
  refine au.CG [_,_,_,_,_,_] (_::_::_::(jb x++gm di br ra done rc B)) fun Hs=>?_
  have e0:=vS hd ra (ra di);rw [show bP ra di (ra di)=ra by funext j;unfold bP;split<;>simp_all]at e0;rw [e0];refine au.CG [_,_,_,_,_,_,_] (_::_::(jb x++gm di br ra done rc B)) fun D=>?_
  refine au.CG [_,_,_,_,_,_,_,_] (_::(jb x++gm di br ra done rc B)) fun R=>?_
  have hm:=(JM hd b0 b5 b6 b7 b8 bm br (oR (ra di)) Hs (mn ra) vf ve now dl bW A.1 A.2 ev C.1 C.2.1 T.1.1 T.1.2.1 T.1.2.2 bb T.2 P.1.1 P.1.2 pr P.2 D.1.1 D.1.2 done D.2 (rc di) R.1 R.2.1 m o e r x h1 (by have:=C.2.2;omega) (by have:=R.2.2;omega)).frame (gm di br ra done rc B);rw [(EY hd).2.2]at hm;refine au.post hm ?_;rintro rv hs ⟨ey,rfl,k1,fI,fE,v',RA,rfl⟩;refine⟨_,?_,k1,fI,fE,rfl⟩;refine aB.trans (gW (b:=dF v' di (rc di++r.map fun v=>(v,now)) ((rc di).length+r.length)::([gl b0 (now:Int) dl bm fI fE b5 b6 b7 b8 (wR di now done (wE di m bb pr e).bad r).2,df fI (bW++o),cJ (bm di) di m,rH fE (ev++e.map fun v=>⟨di,now,v⟩) (ev.length+e.length),uz b5 (wE di m bb pr e).bb,Jr b6 (wE di m bb pr e).pr,qi b7 br,recMap b8 RA (mn ra) (s4 di 18 84 162 660) v']++(iP (br di) ((wR di now done (wE di m bb pr e).bad r).1 di)::gm di br ra done rc B))) [8,0,1,9,2,3,4,5,6,7,10,11,12,13,14,15] (by decide) ?_) ?_
  ·match di,hd with
   | 0,_=>rfl
   | 1,_=>rfl
   | 2,_=>rfl
   | 3,_=>rfl
  refine Na fun ec hec=>?_
  subst hec;refine aB.trans (b:=[gl b0 (now:Int) dl bm fI fE b5 b6 b7 b8 (wR di now done (wE di m bb pr e).bad r).2,df fI (bW++o),cJ (bm di) di m,rH fE (ev++e.map fun v=>⟨di,now,v⟩) (ev.length+e.length),uz b5 (wE di m bb pr e).bb,Jr b6 (wE di m bb pr e).pr,qi b7 br,recMap b8 RA (mn ra) (s4 di 18 84 162 660) (oR ec)]++([iP (br di) ((wR di now done (wE di m bb pr e).bad r).1 di),dF (oR ec) di (rc di++r.map fun v=>(v,now)) ((rc di).length+r.length)]++gm di br ra done rc B)) ?_ ?_
  ·match di,hd with
   | 0,_=>exact gW [1,2,3,4,5,6,7,8,9,0,10,11,12,13,14,15] (by decide) rfl
   | 1,_=>exact gW [1,2,3,4,5,6,7,8,9,0,10,11,12,13,14,15] (by decide) rfl
   | 2,_=>exact gW [1,2,3,4,5,6,7,8,9,0,10,11,12,13,14,15] (by decide) rfl
   | 3,_=>exact gW [1,2,3,4,5,6,7,8,9,0,10,11,12,13,14,15] (by decide) rfl
  refine aB.cons (aB.refl _) (aB.cons (aB.refl _) ?_);have e1:aB [recMap b8 RA (mn ra) (s4 di 18 84 162 660) (oR ec)] [oJ b8 (bP ra di ec)]:=by
   have:=aB.ex (F:=fun Hs:Nat→Int=>bK b8 [.u8,.u8] true false ([.slice none 0 0]) (fun i=> !(Hs i==0)) (cc [dC 1 (fun j=>iR (mn (bP ra di ec) j))])) RA rfl;rw [vS hd ra ec]at this;unfold oJ;rw [vS hd ra ec];exact this
  refine aB.trans (aB.cons (aB.refl _) (aB.trans (aB.cons (Qc (B':=B+4) (by have:=C.2.2;omega)) (aB.cons (aB.refl _) (aB.cons (aB.refl _) (aB.cons (aB.refl _) (aB.cons e1 (aB.trans (aB.cons (aB.refl _) (aB.cons (K8 (B':=B+4) (by have:=R.2.2;omega)) (M_ hd (Nat.le_add_right B 4)))) (Qd hd (fun k hk=>Qe r hk) ec))))))) xr)) (gW [1,0] (by decide) rfl)
 ·refine aB.trans (b:=(([gl b0 (now:Int) dl bm vf ve b5 b6 b7 b8 false,aC true 216 59 vf.v bW.length (aT bW.length (rG A.1))]++(qu ve b5 b6 b7 b8 bb pr done ev rc B br ra++[cJ (bm di) di m,HP.star (jb x)])))) ?_ ?_
  ·exact aB.cons (aB.refl _) (aB.cons (aB.refl _) (aB.both (a:=[HP.star (qu ve b5 b6 b7 b8 bb pr done ev rc B br ra)]) (b:=qu ve b5 b6 b7 b8 bb pr done ev rc B br ra) (c:=[cJ (bm di) di m,HP.star (jb x)]) (d:=[cJ (bm di) di m,HP.star (jb x)]) (aB.eQ (qu ve b5 b6 b7 b8 bb pr done ev rc B br ra)) (aB.refl [cJ (bm di) di m,HP.star (jb x)])))
  ·refine aB.cons (aB.refl _) (aB.cons (aB.refl _) (aB.cons (aB.refl _) (aB.cons (aB.refl _) (aB.cons (aB.refl _) (aB.cons (aB.refl _) (aB.cons (aB.refl _) ?_))))));refine aB.trans (aB.both (pull hd) (aB.cons (aB.refl _) (aB.eQ (jb x)))) ?_;refine gW [0,1,8,9,10,11,2,3,4,5,6,7] (by decide) ?_
   match di,hd with
   | 0,_=>rfl
   | 1,_=>rfl
   | 2,_=>rfl
   | 3,_=>rfl
end Go.RX.Dj

namespace Go.RX.Dl
open Go.RX Go.Proofs Go.Cp Go.RX.Cs Go.RX.Ct Go.RX.Cu Go.RX.Cy Go.RX.Cz Go.RX.Da Go.RX.Dc Go.RX.Dd Go.RX.Df Go.RX.Dg Go.RX.Di Go.RX.Dj
set_option maxRecDepth 100000
theorem YZ:yv zK:=by
 intro v hv;simp only [zK,aN,ag9]at hv;obtain⟨_,_,rfl⟩:=hv;decide
structure nK (s:Rs LI):Prop where
 o:s.o.length≤6
 r:s.r.length≤2
 e: ∀v∈s.e,v.k=3∨v.k=4→s.m.ph≠0
 el:s.e.length≤4
 m:KM s.m
 s: ∀y∈s.o,KS y
variable {i:Nat} {m:Mc LI} {X:Mg LI} {now:Nat} {F:Nat→LI→LI→Nat→Nat→LI} {H:LI→LI}
theorem _root_.Go.RX.Cz.KM.idle{m:Mc LI}(h:m.ph=0):KM m:=⟨fun e=>absurd h e,fun e=>absurd h e,fun e=>absurd h e,fun e=>absurd h e⟩
theorem _root_.Go.RX.Cz.KM.same{m m':Mc LI}(h:KM m)(h0:m.ph≠0)(h1:m'.c=m.c)(h2:m'.own=m.own)(h3:m'.off=m.off)(h4:m'.dM=m.dM):KM m':=
 ⟨fun _=>h1▸h.c h0,fun _=>h2▸h.own h0,fun _=>h3▸h.off h0,fun _=>h4▸h.dM h0⟩
theorem lT(h:KM m):nK (gG m):=⟨by simp [gG],by simp [gG],fun v hv=>by simp [gG]at hv,by simp [gG],h,fun _ hy=>by simp [gG]at hy⟩
theorem rK(h:KM m){y:Mg LI}(hy:KS y):nK ⟨m,[y],[],[]⟩:=⟨by simp,by simp,fun v hv=>by simp at hv,by simp,h,fun z hz=>by simp at hz;exact hz▸hy⟩
theorem JN{k c f t w:Nat}(h:VS c):KS ⟨k,c,f,t,zK,w⟩:=⟨h,YZ⟩
theorem Uu{k c w:Nat}(h:VS c){sub:List Nat}: ∀y∈Cp.to zK k c i sub w,KS y:=by
 intro y hy;simp only [Cp.to,ag9]at hy;obtain⟨_,_,rfl⟩:=hy;exact JN h
theorem ic(h:KM m)(h0:m.ph≠0){sub:List Nat}(hs:sub.length≤2){w oc:Nat}:nK (leaves zK i m sub w oc):=by
 refine⟨?_,by simp [leaves],fun v hv=>by simp [leaves,lP]at hv;simp [hv],by simp [leaves],KM.idle rfl,?_⟩
 ·simp only [leaves];split
  ·simp [Cp.to];omega
  ·simp
 ·intro y hy;simp only [leaves]at hy;split at hy
  ·exact Uu (h.c h0) y hy
  ·simp at hy;exact hy▸JN (h.c h0)
theorem DW{oc:Nat}:nK (ends zK m oc):=⟨by simp [ends],by simp [ends],fun v hv=>by simp [ends,lP]at hv;simp [hv],by simp [ends],KM.idle rfl,fun _ hy=>by simp [ends]at hy⟩
theorem vT(h:KM m)(h0:m.ph≠0)(hF: ∀c k k' a d,yv (F c k k' a d)){key:LI}(hk:yv key):nK (answers zK F i m key now):=by
 refine⟨by simp [answers],by simp [answers],fun _ _ _=>by simp [answers],by simp [answers],⟨fun _=>h.c h0,fun _=>hk,fun _=>h.off h0,fun _=>hF _ _ _ _ _⟩,fun y hy=>?_⟩;simp [answers]at hy;rcases hy with rfl | rfl
 ·exact⟨h.c h0,hk⟩
 ·exact JN (h.c h0)
theorem Nb(hK:KM m)(hX:KS X)(hF: ∀c k k' a d,yv (F c k k' a d))(q:Or)(h1:q.sub.length≤2)(h2:q.pg.length≤2):nK (take zK F H i m X now q):=by
 have n:=lT hK;have kr:KM (rings zK X now):=⟨fun _=>hX.c,fun _=>YZ,fun _=>hX.key,fun _=>YZ⟩;have s1: ∀k t w,KS (⟨k,X.c,i,t,zK,w⟩:Mg LI):=fun k t w=>JN hX.c
 unfold take;split
 ·split
  ·exact n
  split
  ·exact⟨by simp,by simp,fun v hv=>by simp [nZ]at hv;simp [hv],by simp,kr,fun _ hy=>by simp at hy⟩
  split
  ·exact n
  split
  ·rename_i h0 _ h3;have a:=ic (i:=i) hK h0 h1 (w:=4) (oc:=7);have b:=vT (i:=i) (now:=now) kr (by simp [rings]) hF (hK.own h0);refine⟨?_,a.r,fun _ _ _=>by simp [answers],by simp [leaves,answers],b.m,fun y hy=>?_⟩
   ·simp only [List.length_append];have e1:(leaves zK i m q.sub 4 7).o.length≤2:=by
     simp only [leaves,h3.1,if_true];simp [Cp.to];exact h1
    have e2:(answers zK F i (rings zK X now) m.own now).o.length=2:=rfl;omega
   ·rcases List.mem_append.1 hy with hy | hy
    ·exact a.s y hy
    ·exact b.s y hy
  split
  ·exact n
  ·exact rK hK (s1 _ _ _)
 split
 ·split
  ·exact rK hK (s1 _ _ _)
  rename_i hh;have hh:=agN.1 hh;have hc:=hK.c hh.1;split
  ·have km:KM {m with ph:=3,dM:=F m.c m.own X.key i X.f,peer:=X.f,since:=now}:=⟨fun _=>hc,fun _=>hK.own hh.1,fun _=>hK.off hh.1,fun _=>hF _ _ _ _ _⟩;have so: ∀y∈(⟨3,m.c,i,X.f,zK,0⟩:Mg LI)::Cp.to zK 6 m.c i (q.pg.filter (· ≠X.f)) 0,KS y:=by
    intro y hy;rcases List.mem_cons.1 hy with rfl | hy
    ·exact JN hc
    ·exact Uu hc y hy
   have lo:((⟨3,m.c,i,X.f,zK,0⟩:Mg LI)::Cp.to zK 6 m.c i (q.pg.filter (· ≠X.f)) 0).length≤6:=by
    have hf:=List.length_filter_le (fun y=> !decide (y=X.f)) q.pg;simp [Cp.to];omega
   split
   ·exact⟨lo,by simp,fun _ _ _=>by simp [active],by simp,⟨fun _=>hc,fun _=>hK.own hh.1,fun _=>hK.off hh.1,fun _=>hF _ _ _ _ _⟩,so⟩
   ·exact⟨lo,by simp,fun _ _ _=>by simp,by simp,km,so⟩
  split
  ·exact rK hK (s1 _ _ _)
  ·exact n
 split
 ·split
  ·exact rK hK (s1 _ _ _)
  rename_i hh;have hh:=agN.1 hh;split
  ·exact n
  split
  ·exact⟨by simp,by simp,fun _ _ _=>by simp [active],by simp,hK.same hh.1 rfl rfl rfl rfl,fun _ hy=>by simp at hy⟩
  split
  ·exact⟨by simp,by simp,fun v hv=>by simp at hv,by simp,hK.same hh.1 rfl rfl rfl rfl,fun _ hy=>by simp at hy⟩
  ·exact n
 split
 ·split
  ·rename_i h;exact ic hK h.1.1 h1
  ·exact n
 split
 ·split
  ·exact n
  rename_i hh;have hh:=agN.1 hh;split
  ·split
   ·exact ic hK hh.1 h1
   ·exact lT (hK.same hh.1 rfl rfl rfl rfl)
  split
  ·exact n
  ·exact DW
 split
 ·split
  ·exact DW
  ·exact n
 ·exact n
theorem sF(hK:KM m)(q:Or)(h1:q.sub.length≤2):nK (tick zK i m now q):=by
 unfold tick;split
 ·rename_i h;exact ic hK (by omega) h1
 split
 ·rename_i h;exact ic hK (by omega) h1
 split
 ·rename_i h;exact ic hK (by omega) h1
 split
 ·rename_i h;exact rK (hK.same (m':={m with bO:=now}) (by omega) rfl rfl rfl rfl) (JN (hK.c (by omega)))
 ·exact lT hK
theorem Hj(hK:KM m)(hF: ∀c k k' a d,yv (F c k k' a d)){key:LI}(hk:yv key):nK (answer zK F i m key now):=by
 unfold answer;split
 ·exact vT hK (by omega) hF hk
 ·exact lT hK
theorem E2(hK:KM m):nK (dW zK i m):=by
 unfold dW;split
 ·exact⟨by simp,by simp,fun v hv=>by simp [lP]at hv;simp [hv],by simp,KM.idle rfl,fun y hy=>by simp at hy;exact hy▸JN (hK.c (by omega))⟩
 ·exact lT hK
theorem Nc(hK:KM m)(q:Or)(h1:q.sub.length≤2):nK (ng zK i m q):=by
 unfold ng;split
 ·exact lT hK
 ·exact ic hK (by omega) h1
theorem Hk{c:Nat}(hc:VS c){key:LI}(hk:yv key):nK (cG zK i c key now):=by
 refine⟨by simp [cG,others],by simp [cG],fun v hv=>by simp [cG]at hv;simp [hv],by simp [cG],⟨fun _=>hc,fun _=>hk,fun _=>YZ,fun _=>YZ⟩,fun y hy=>?_⟩;simp only [cG,ag9]at hy;obtain⟨_,_,rfl⟩:=hy;exact⟨hc,hk⟩
structure Keys (s:Sy LI):Prop where
 m: ∀i,i<4→KM (s.ms i)
 s: ∀x∈s.bW,KS x
theorem Keys.after{s s':Sy LI}{r:Rs LI}(h:Keys s)(a:After s s' i r)(hr:nK r):Keys s':=by
 refine⟨fun j hj=>?_,fun x hx=>?_⟩
 ·rw [a.ms];by_cases e:j=i
  ·subst e;rw [bj];exact hr.m
  ·rw [cg _ _ e];exact h.m j hj
 ·rw [a.bW]at hx;rcases List.mem_append.1 hx with hx | hx
  ·exact h.s x hx
  ·exact hr.s x hx
theorem Keys.erase{s:Sy LI}(h:Keys s)(n:Nat):Keys {s with bW:=s.bW.eraseIdx n}:=⟨h.m,fun x hx=>h.s x (List.mem_of_mem_eraseIdx hx)⟩
theorem Ws{o o':Bool}(l:List (Ev LI))(h: ∀v∈l,v.k=3∨v.k=4→o=o')(w:Wo LI):l.foldl (eM i o) w=l.foldl (eM i o') w:=by
 induction l generalizing w with
 | nil=>rfl
 | cons v l ih=>
  rw [List.foldl_cons,List.foldl_cons];have e:eM i o w v=eM i o' w v:=by
   by_cases hk:v.k=3∨v.k=4
   ·rw [h v (.head _) hk]
   ·simp only [not_or]at hk;simp [eM,hk]
  rw [e];exact ih (fun v hv=>h v (.tail _ hv)) _
theorem Nd{s s':Sy LI}{r:Rs LI}(a:After s s' i r)(hr:nK r):wE i r.m s.bb s.pr r.e=⟨s'.bb,s'.pr,false⟩∧wR i s.now s.done false r.r=(s'.done,false):=by
 refine⟨?_,a.rc⟩;rw [←a.ev];exact Ws _ (fun v hv hk=>by simp [Hh,hr.e v hv hk]) _
theorem fR(hi:i<4){s s':Sy LI}{r:Rs LI}(a:After s s' i r)(hr:nK r){e':List (Ev LI)}(he:Tl [] e' r.e)(b0 b5 b6 b7 b8 T:Nat)(bm:Nat→Nat)(vf ve v0 v1 v2:V1)(hf:s.bW.length≤900000000)(hT:T≤900000000):
  au agQ 101 [.pointer (some ⟨b0,0,none⟩),.int .i64 (i:Int),.agg #[v0.v,v1.v,v2.v]]
   [gl b0 (s.now:Int) (s.dl:Int) bm vf ve b5 b6 b7 b8 false,df vf s.bW,oK ve b5 b6 b7 b8 s.bb s.pr s.done s.eG s.lY T,cJ (bm i) i r.m,eX v0 v1 v2 i s.now r.o e' r.r]
   fun rv hs=>rv= .tuple #[]∧∃fI fE:V1,hs=[gl b0 (s'.now:Int) (s'.dl:Int) bm fI fE b5 b6 b7 b8 false,df fI s'.bW,oK fE b5 b6 b7 b8 s'.bb s'.pr s'.done s'.eG s'.lY (T+4),cJ (bm i) i r.m]:=by
 obtain⟨d,hd,hl,ht⟩:=he;rw [List.nil_append]at hd;subst hd ht;obtain⟨h1,h2⟩:=Nd a hr;have:=Hi (B:=T) (done:=s.done) (ev:=s.eG) (rc:=s.lY) hi b0 b5 b6 b7 b8 bm vf ve v0 v1 v2 s.now (s.dl:Int) s.bW s.bb s.pr r.m r.o r.e r.r (by have:=hr.o;omega) hT hl (by have:=hr.r;omega);rw [h1,h2]at this;rw [a.now,a.dl,a.bW,a.eG,a.lY];exact this
end Go.RX.Dl
