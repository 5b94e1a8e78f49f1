/- 'May a state be stored'. -/
import Derived.Test.YtllcdnkfbeokhaaGreatM39
open Go.IntKind renaming wrap → ae
open Go.Proofs.Tryz renaming prog → aqQ
open Int renaming toNat → ag, toNat_natCast → aqD
open List renaming mem_append → aqC, mem_singleton → aqx
namespace Go.RX.Vb
open Go Go.RX Go.Proofs Go.Vs
def zy(rs:List Room)(i:Nat):Option (List Nat):=if i=0 then none else(rs[i - 1]?).map (·.id)
structure K4 (rs:List Room) (i:Nat) (A B:Nat→Int):Prop where
 run:(rs.take i).foldlM lv none=some (zy rs i)
 n:A 0=(i:Int)
 no: ∀l:List Nat,l.length=16→(∀(j:Nat) (h:j<rs.length),j<i→rs[j].id≠l)→A (aS (kL l))=0∧B (aS (kL l))=0
 up: ∀(j k:Nat) (hj:j<rs.length) (hk:k<rs.length),j<k→k<i→sq rs[j].id rs[k].id=true
theorem AO{rs:List Room}{i:Nat}(hi:i<rs.length)(h1:i=0∨∃h:i - 1<rs.length,sq rs[i - 1].id rs[i].id=true)(h2:rs[i].aX<8):lv (zy rs i) rs[i]=some (some rs[i].id):=by
 unfold lv;rw [if_neg];rintro (⟨l,hl,cq⟩ | h)
 ·rcases h1 with rfl | ⟨h,h1⟩
  ·cases hl
  ·unfold zy at hl;split at hl
   ·cases hl
   ·rw [List.getElem?_eq_getElem h]at hl;cases hl;rw [h1]at cq;cases cq
 ·omega
theorem K4.next{rs:List Room}{i:Nat}{A B:Nat→Int}(h:K4 rs i A B)(hrI: ∀x∈rs,x.id.length=16)(hi:i<rs.length)(h1:i=0∨∃h:i - 1<rs.length,sq rs[i - 1].id rs[i].id=true)(h2:rs[i].aX<8):
  (∀j,j<i→∀hj:j<rs.length,rs[j].id≠rs[i].id)∧∀z:Int,K4 rs (i+1) (aw (aw A 0 (A 0+1)) (aS (kL rs[i].id)) 1) (aw B (aS (kL rs[i].id)) z):=by
 have cq: ∀j,j<i→∀hj:j<rs.length,sq rs[j].id rs[i].id=true:=by
  intro j JD hj;rcases h1 with rfl | ⟨hp,h1⟩
  ·omega
  ·by_cases hjp:j=i - 1
   ·subst hjp;exact h1
   ·exact BC _ _ _ (h.up j (i - 1) hj hp (by omega) (by omega)) h1
 have fg: ∀j,j<i→∀hj:j<rs.length,rs[j].id≠rs[i].id:=by
  intro j JD hj he;have:=cq j JD hj;rw [he,IT]at this;cases this
 have l1:=hrI _ (List.getElem_mem hi);refine⟨fg,fun z=>⟨?_,?_,?_,?_⟩⟩
 ·rw [jd _ _ hi,jQ,h.run];show lv (zy rs i) rs[i]=_;rw [AO hi h1 h2];unfold zy;rw [if_neg (by omega),Nat.add_sub_cancel,List.getElem?_eq_getElem hi];rfl
 ·simp only [aw];rw [if_neg (fun e=>Hd _ e.symm),if_pos trivial,h.n];simp
 ·intro l hl oH;have Xm:l≠rs[i].id:=fun e=>oH i hi (by omega) e.symm
  have hk:aS (kL l)≠aS (kL rs[i].id):=fun e=>Xm (IS hl l1 e)
  simp only [aw];rw [if_neg hk,if_neg hk,if_neg (Hd l)];exact h.no l hl fun j hj JD=>oH j hj (by omega)
 ·intro j k hj hk hjk hki;by_cases he:k=i
  ·subst he;exact cq j hjk hj
  ·exact h.up j k hj hk hjk (by omega)
theorem BF{rs:List Room}{i:Nat}{A B:Nat→Int}(h:K4 rs i A B)(hi:i<rs.length)(hb:(∃h:i - 1<rs.length,0<i∧sq rs[i - 1].id rs[i].id=false)∨8≤rs[i].aX):pC rs=false:=by
 have:(rs.take (i+1)).foldlM lv none=none:=by
  rw [jd _ _ hi,jQ,h.run];show lv (zy rs i) rs[i]=none;unfold lv;rw [if_pos];rcases hb with⟨hp,h0,hb⟩ | hb
  ·refine .inl ⟨_,?_,hb⟩;unfold zy;rw [if_neg (by omega),List.getElem?_eq_getElem hp];rfl
  ·exact .inr hb
 have:=qN _ _ _ _ this;unfold pC;rw [this];simp
theorem rE(s:Vs.State)(most dP:Int):uE s most dP=true↔uC s.table.keys.dev s.table.bA most=true∧vL s.call dP=true∧wY s.log=true∧s.call.me=s.table.keys.dev∧pC s.aO=true:=by
 simp [uE,and_assoc]
theorem Xn{a b:jW}:(((a.a:Nat):Int)=((b.a:Nat):Int)∧((a.d:Nat):Int)=((b.d:Nat):Int))↔a=b:=by
 cases a;cases b;simp;omega
set_option maxHeartbeats 2000000 in
theorem K5(s:Vs.State)(most dP:Int)(u1 u2 u3 u4 u5 u6 u7:V1)(C:Nat→Int)(H:HP)(hH:H.wr=false)(hP:ob H s.table.bA C)(hs:BD s):
  aq aqQ 15 [.agg (rD s most dP u1.v u2.v u3.v u4.v u5.v u6.v u7.v).toArray,.nilIface] (fj false s C u1.v u2.v u3.v u4.v u5.v u6.v u7.v++[H]) fun r hs=>hs=[]∧∃a e:Int,r= .tuple #[cA a,.int .i64 e]∧(e=0↔uE s most dP=true):=by
 obtain⟨k1,k2,k3,k4,k5,k6,k7,k8,k9⟩:=hs;have no: ∀(e:Int) (_: ¬e=0) (_: ¬uE s most dP=true),([]:List HP)=[]∧∃a e':Int,Value.tuple #[.pointer none,.int .i64 e]= .tuple #[cA a,.int .i64 e']∧(e'=0↔uE s most dP=true):=
  fun e h1 h2=>⟨rfl,0,e,rfl,fun h=>absurd h h1,fun h=>absurd h h2⟩
 refine WB _ (s.drawn:Int) (s.table.keys.dev.a:Int) (s.table.keys.dev.d:Int) most (s.call.me.a:Int) (s.call.me.d:Int) (s.call.state:Int) (bi s.call.out) (s.call.aX:Int) (s.call.peer.a:Int) (s.call.peer.d:Int) dP (s.call.fi:Int) (s.call.cc:Int) (s.call.since:Int) (s.call.heard:Int) (s.call.oa:Int) (s.call.jh:Int)
  (s.table.keys.once.length:Int) (s.table.bA.length:Int) (s.call.dead.length:Int) (s.call.marks.length:Int) (s.call.early.length:Int) (s.log.length:Int) (s.aO.length:Int)
  (aL s.oN) (aL s.table.keys.ident) (aL s.table.keys.signed) (aL s.call.d_) (aL s.call.id) (aL s.call.own) (aL s.call.ef) (aL s.call.jg) (cu dx.id s.table.keys.once) (dV dx.dY s.table.keys.once) (cu (·.dev.a) s.table.bA) (cu (·.dev.d) s.table.bA) C (dV (fun x=>x) s.call.dead) (aL s.call.marks) (cu jW.a s.call.early) (cu jW.d s.call.early) (aL s.log) (dV Room.id s.aO) (cu Room.aX s.aO) (jm Room.out s.aO) (cu Room.since s.aO) u1 u2 u3 u4 u5 u6 u7 H ?_
 unfold OJ;intro b0;refine Pq hH hP k1 k2 k3 fun a1 e1 h1=>?_
 refine⟨fun hb=>no e1 hb fun h=>hb (h1.2 ((rE ..).1 h).1),fun hb=>?_⟩;refine Pr k4 k5 k6 fun a2 e2 h2=>?_
 refine⟨fun hb=>no e2 hb fun h=>hb (h2.2 ((rE ..).1 h).2.1),fun DS=>?_⟩;refine Ps k7 fun a3 e3 h3=>?_
 refine⟨fun hb=>no e3 hb fun h=>hb (h3.2 ((rE ..).1 h).2.2.1),fun Yp=>?_⟩;rw [Xn];refine⟨.inr (by omega),fun _=>⟨fun hb=>no 2 (by decide) fun h=>?_,fun hb4=>?_⟩⟩
 ·obtain⟨_,_,_,g1,g2⟩:=(rE ..).1 h;rcases hb with hb | hb
  ·exact hb g1
  ·unfold pC at g2;simp at g2;omega
 have h1:=h1.1 (Decidable.not_not.1 hb);have h2:=h2.1 (Decidable.not_not.1 DS);have h3:=h3.1 (Decidable.not_not.1 Yp);have Y8:s.call.me=s.table.keys.dev:=Decidable.byContradiction fun h=>hb4 (.inl h)
 have hr8:s.aO.length≤8:=by
  rcases Nat.lt_or_ge 8 s.aO.length with h | h
  ·exact absurd (.inr (by omega)) hb4
  ·exact h
 have oc:uE s most dP=pC s.aO:=by
  unfold uE;rw [h1,h2,h3,Y8];simp
 intro b1 b2;refine⟨by omega,fun _=>?_⟩;refine⟨fun x=> ∃(i:Nat) (A B:Nat→Int),x=⟨[],[],[(i:Int)],[A,B],[],[],[]⟩∧i≤s.aO.length∧K4 s.aO i A B,fun x=>s.aO.length - (x.i.getD 0 0).toNat,?_,?_⟩
 ·exact⟨_,_,_,rfl,rfl,rfl,0,_,_,rfl,by omega,⟨rfl,rfl,fun _ _ _=>⟨rfl,rfl⟩,fun j k _ _ _ h=>absurd h (by omega)⟩⟩
 rintro ia A B ⟨i,A,B,hx,hi,hI⟩;simp only [Ext.mk.injEq,List.cons.injEq,and_true,true_and]at hx;obtain⟨rfl,rfl,rfl⟩:=hx;refine⟨fun cq=>?_,fun lN=>?_⟩
 ·have dy:i<s.aO.length:=by omega
  have Po: ∀k,k<16→bS (dV Room.id s.aO) (ag ((i:Int)*16)) k=aL s.aO[i].id k:=by
   intro k hk;show aL _ (_+k)=_;rw [show(((i:Int)*16).toNat+k)=i*16+k by omega];exact l_ Room.id 16 _ k9 i k dy hk
  refine⟨by omega,fun _=>fun b3=>⟨by omega,fun _=>⟨by omega,fun _=>⟨by omega,fun _=>⟨by omega,fun _=>⟨by omega,fun _=>⟨by omega,fun _=>⟨by omega,fun _=>⟨by omega,fun _=>?_⟩⟩⟩⟩⟩⟩⟩⟩⟩;have abb:cu Room.aX s.aO (ag (i:Int))=(s.aO[i].aX:Nat):=by rw [aqD];exact jE _ _ _ dy
  have abd:jm Room.out s.aO (ag (i:Int))=bi s.aO[i].out:=by rw [aqD];exact mU _ _ _ dy
  have abe: ∀(h1:i=0∨∃h:i - 1<s.aO.length,sq s.aO[i - 1].id s.aO[i].id=true) (h2:s.aO[i].aX<8),(A (aS (kL s.aO[i].id))=0∧B (aS (kL s.aO[i].id))=0)∧A 0<8∧∀z:Int,K4 s.aO (i+1) (aw (aw A 0 (A 0+1)) (aS (kL s.aO[i].id)) 1) (aw B (aS (kL s.aO[i].id)) z):=by
   intro h1 h2;obtain⟨g1,g2⟩:=hI.next k9 dy h1 h2;refine⟨hI.no _ (k9 _ (List.getElem_mem dy)) fun j hj JD=>g1 j JD hj,by rw [hI.n];omega,g2⟩
  refine⟨fun u_=>?_,fun hz=>?_⟩
  ·refine Pt (j:=i - 1) (i:=i) rfl (by omega) dy k9 (by omega) Po fun c hc=>?_
   rw [abb];refine⟨fun hb=>no 2 (by decide) fun h=>?_,fun hb=>?_⟩
   ·rw [oc,BF hI dy]at h
    ·cases h
    ·rcases hb with hb | hb
     ·exact .inl ⟨by omega,by omega,hc.1 hb⟩
     ·exact .inr (by omega)
   ·have g1:sq s.aO[i - 1].id s.aO[i].id=true:=by
     cases hh:sq s.aO[i - 1].id s.aO[i].id with
     | true=>rfl
     | false=>exact absurd (.inl (hc.2 hh)) hb
    obtain⟨⟨z1,z2⟩,z3,z4⟩:=abe (.inr ⟨by omega,g1⟩) (by omega);refine ES abd s.aO[i].id Po z1 z2 z3 fun b y1 y2=>?_
    exact⟨by omega,fun _=>⟨by omega,fun _=>⟨((i+1:Nat):Int),_,_,by simp,rfl,rfl,⟨i+1,_,_,rfl,by omega,z4 _⟩,by simp;omega⟩⟩⟩
  ·rw [abb];refine⟨fun hb=>no 2 (by decide) fun h=>?_,fun hb=>?_⟩
   ·rw [oc,BF hI dy (.inr (by omega))]at h;cases h
   ·obtain⟨⟨z1,z2⟩,z3,z4⟩:=abe (.inl (by omega)) (by omega);refine ES abd s.aO[i].id Po z1 z2 z3 fun b y1 y2=>?_
    exact⟨by omega,fun _=>⟨by omega,fun _=>⟨((i+1:Nat):Int),_,_,by simp,rfl,rfl,⟨i+1,_,_,rfl,by omega,z4 _⟩,by simp;omega⟩⟩⟩
 ·refine⟨rfl,(b2:Nat)+1,0,by rw [eF],fun _=>?_,fun _=>rfl⟩;have:i=s.aO.length:=by omega
  subst this;have hr:=hI.run;rw [List.take_length]at hr;rw [oc];unfold pC;rw [hr];simp [hr8]
def lL(s:Vs.State)(most dP:Int):Bool:=decide (0≤most)&&decide (most≤2147483647)&&decide (-1≤dP)&&decide (dP≤254)&&uE s most dP
set_option maxHeartbeats 4000000 in
theorem vM(s:Vs.State)(most dP:Int)(u1 u2 u3 u4 u5 u6 u7:V1)(C:Nat→Int)(H:HP)(hH:H.wr=false)(hP:ob H s.table.bA C)(hs:BD s):
  aq aqQ 10 [.agg (rD s most dP u1.v u2.v u3.v u4.v u5.v u6.v u7.v).toArray] (fj false s C u1.v u2.v u3.v u4.v u5.v u6.v u7.v++[H]) fun r hs=>hs=[]∧r= .bool (lL s most dP):=by
 refine WD _ (s.drawn:Int) (s.table.keys.dev.a:Int) (s.table.keys.dev.d:Int) most (s.call.me.a:Int) (s.call.me.d:Int) (s.call.state:Int) (bi s.call.out) (s.call.aX:Int) (s.call.peer.a:Int) (s.call.peer.d:Int) dP (s.call.fi:Int) (s.call.cc:Int) (s.call.since:Int) (s.call.heard:Int) (s.call.oa:Int) (s.call.jh:Int)
  (s.table.keys.once.length:Int) (s.table.bA.length:Int) (s.call.dead.length:Int) (s.call.marks.length:Int) (s.call.early.length:Int) (s.log.length:Int) (s.aO.length:Int)
  (aL s.oN) (aL s.table.keys.ident) (aL s.table.keys.signed) (aL s.call.d_) (aL s.call.id) (aL s.call.own) (aL s.call.ef) (aL s.call.jg) (cu dx.id s.table.keys.once) (dV dx.dY s.table.keys.once) (cu (·.dev.a) s.table.bA) (cu (·.dev.d) s.table.bA) C (dV (fun x=>x) s.call.dead) (aL s.call.marks) (cu jW.a s.call.early) (cu jW.d s.call.early) (aL s.log) (dV Room.id s.aO) (cu Room.aX s.aO) (jm Room.out s.aO) (cu Room.since s.aO) u1 u2 u3 u4 u5 u6 u7 H ?_
 unfold OL;intro b0;have hi:lL s most dP=true↔0≤most∧most≤2147483647∧ -1≤dP∧dP≤254∧uE s most dP=true:=by simp [lL,and_assoc]
 refine⟨fun hb=>⟨rfl,?_⟩,fun hb=>?_⟩
 ·have:lL s most dP=false:=by
   cases h:lL s most dP with
   | false=>rfl
   | true=>have:=hi.1 h;omega
  rw [this]
 ·have hw: ∀h∈fj false s C u1.v u2.v u3.v u4.v u5.v u6.v u7.v++[H],h.wr=false:=by
   intro h hh;rcases aqC.1 hh with hh | hh
   ·exact lookW rfl h hh
   ·rw [aqx.1 hh];exact hH
  refine⟨_,aq.looks (K5 s most dP u1 u2 u3 u4 u5 u6 u7 C H hH hP hs) hw,?_⟩;rintro x kT ⟨rfl,a,e,rfl,he⟩;refine⟨a,e,rfl,rfl,rfl,?_⟩;have:lL s most dP=(e==0):=by
   rw [Bool.eq_iff_iff,hi,←he];simp;omega
  rw [this]
open Go Go.RX Go.Proofs Go.Vs
theorem bJ.VH{b:Nat}{x z:Value}:bJ [ak b true [x,.slice none 0 0,z]] [ak b true [x,(⟨.slice none 0 0,rfl⟩:V1).v,z],aB true 5 1 (⟨.slice none 0 0,rfl⟩:V1).v 0 []]:=
 bJ.front (A:=[ak b true [x,.slice none 0 0,z]]) (bJ.vI 5 1)
set_option maxRecDepth 100000 in
set_option maxHeartbeats 4000000 in
theorem zz(s:Vs.State)(u1 u2 u3 u4 u5 u6 u7:V1)(C:Nat→Int)(H:HP)(hH:H.wr=false)(hP:ob H s.table.bA C)(hs:CA s)(hl:(bq.enc s).length≤140737488355328):
  aq aqQ 13 [.agg (jO s u1.v u2.v u3.v u4.v u5.v u6.v u7.v).toArray] (fj false s C u1.v u2.v u3.v u4.v u5.v u6.v u7.v++[H]) fun r hs=> ∃o:V1,r=o.v∧hs=[aT true o.v (bq.enc s)]:=by
 refine aq.post (Sx (fun r hs=> ∃o:V1,r=o.v∧List.Sublist [aT true o.v (bq.enc s)] hs) (s.drawn:Int) (s.table.keys.dev.a:Int) (s.table.keys.dev.d:Int) (s.table.most:Int) (s.call.me.a:Int) (s.call.me.d:Int) (s.call.state:Int) (bi s.call.out) (s.call.aX:Int) (s.call.peer.a:Int) (s.call.peer.d:Int) ((s.call.hJ:Int) - 1) (s.call.fi:Int) (s.call.cc:Int) (s.call.since:Int) (s.call.heard:Int) (s.call.oa:Int) (s.call.jh:Int)
  (s.table.keys.once.length:Int) (s.table.bA.length:Int) (s.call.dead.length:Int) (s.call.marks.length:Int) (s.call.early.length:Int) (s.log.length:Int) (s.aO.length:Int)
  (aL s.oN) (aL s.table.keys.ident) (aL s.table.keys.signed) (aL s.call.d_) (aL s.call.id) (aL s.call.own) (aL s.call.ef) (aL s.call.jg) (cu dx.id s.table.keys.once) (dV dx.dY s.table.keys.once) (cu (fun p:fp=>p.dev.a) s.table.bA) (cu (fun p:fp=>p.dev.d) s.table.bA) C (dV (fun x=>x) s.call.dead) (aL s.call.marks) (cu jW.a s.call.early) (cu jW.d s.call.early) (aL s.log) (dV Room.id s.aO) (cu Room.aX s.aO) (jm Room.out s.aO) (cu Room.since s.aO) u1 u2 u3 u4 u5 u6 u7 H ?_) ?_
 rotate_left
 ·rintro r hs ⟨o,rfl,h⟩;exact⟨_,bJ.sub h,o,rfl,rfl⟩
 unfold IM;intro b0 b1;refine⟨fun e=>e=⟨[],[⟨.slice none 0 0,rfl⟩],[],[],[],[],[]⟩,fun w Fs h=>⟨⟨.slice none 0 0,rfl⟩,bJ.VH w Fs h,rfl⟩,fun v7 h7=>?_⟩;refine⟨_,KH b1 b0 v7 u1 u2 u3 u4 u5 u6 u7 [] s C H hH hP hs (by simpa using hl),?_⟩;rintro x kT ⟨rfl,v',rfl⟩;refine⟨v',((bq.enc s).length:Int),aL (bq.enc s),rfl,rfl,v',rfl,?_⟩
 iterate 10 refine List.Sublist.cons _ ?_
 exact List.Sublist.refl _
end Go.RX.Vb

namespace Go.RX.Fe
open Go.RX
def rowOf(n:Nat)(cs:List SV)(h:List Ck):List Ck:=
 match h.reverse.findIdx? (fun | .row _ _ x=>SV.o3 x==n | _=>false)with
 | some i=>match h.reverse[i]? with
  | some (.row b w _)=>(h.reverse.set i (.row b w cs)).reverse
  | _=>h
 | none=>h
def w4(a:Nat):List bL:=[⟨.int .u8,4,.cI a⟩]
def bj(f:Nat):Option aI:=
 match f with
 | _=>none
def loops(f id:Nat):Option ei:=
 match f,id with
 | _,_=>none
end Go.RX.Fe

namespace Go.RX.Fg
open Go.RX Go.RX.Fe
def bj(f:Nat):Option aI:=
 match f with
 | _=>none
def cB(a:Nat):List bL:=[⟨.int .u8,1,.cI a⟩]
def loops(f id:Nat):Option ei:=
 match f,id with
 | _,_=>none
 where
 abf (e:E) (h:List Ck):List Ck:=
  match h.reverse.findIdx? (fun | .row _ true [.int .i64 _]=>true | _=>false)with
  | some i=>match h.reverse[i]? with
   | some (.row b w _)=>(h.reverse.set i (.row b w [.int .i64 e])).reverse
   | _=>h
  | none=>h
 acO (c:ct) (h:List Ck):List Ck:=abf (.var c.i) h
 acP (c:ct) (h:List Ck):List Ck:=abf (.var (c.i+1)) h
end Go.RX.Fg

namespace Go.RX.Fh
open Go.RX Go.RX.Fe Go.RX.Fg
def bj(f:Nat):Option aI:=
 match f with
 | _=>none
def loops(f id:Nat):Option ei:=
 match f,id with
 | _,_=>none
end Go.RX.Fh

namespace Go.RX.Fi
open Go.RX Go.RX.Fe Go.RX.Fg
def rootOf(hp:List Ck):SV→List Nat
 | .vv v=>match ey hp v with
  | some (j,_)=>[j]
  | none=>[]
 | .jo v _ _=>match ey hp v with
  | some (j,_)=>[j]
  | none=>[]
 | .sl b _ _ _ _=>match findAt hp b with
  | some (j,_)=>[j]
  | none=>[]
 | .opt _ v=>rootOf hp v
 | _=>[]
def roots(hp:List Ck)(az:List SV):List Nat:=(az.flatMap (rootOf hp)).eraseDups
def lenOf(hp:List Ck):SV→E
 | .sl _ _ _ n _=>n
 | .bu=> .lit 0
 | x=>match gL hp x with
  | some r=>r.p.len
  | none=> .lit 0
def zA(n:E)(c:ct)(h:List Ck):List Ck:=h++[.cr true c.v 5 1 n (cB c.a)]
def bj(f:Nat):Option aI:=
 match f with
 | _=>none
def loops(f id:Nat):Option ei:=
 match f,id with
 | _,_=>none
end Go.RX.Fi

namespace Go.RX.Fj
open Go.RX Go.RX.Fe Go.RX.Fg Go.RX.Fi
def makes(n:List SV→List Ck→E):aI:={use:=fun az hp=>roots hp az,inc:={a:=1,v:=1},val:=fun c=> .vv c.v,new:=fun c h=>zA (n [] h) c h}
def bj(f:Nat):Option aI:=
 match f with
 | _=>none
def Pu(i v:Nat)(n:E)(a:Nat)(h:List Ck):List Ck:=
 match h[i]? with
 | some (.cr md _ t s _ _)=>h.set i (.cr md v t s n (cB a))
 | _=>h
def loops(f id:Nat):Option ei:=
 match f,id with
 | _,_=>none
end Go.RX.Fj

namespace Go.RX.Fk
open Go.RX Go.RX.Fe Go.RX.Fg Go.RX.Fi Go.RX.Fj
def Pv:aI:={use:=fun az hp=>roots hp az,inc:={i:=1,a:=1,v:=1},val:=fun c=> .vv c.v,new:=fun c h=>zA (.var c.i) c h}
def bj(f:Nat):Option aI:=
 match f with
 | _=>none
def loops(f id:Nat):Option ei:=
 match f,id with
 | _,_=>none
 where
 amD (i a:Nat) (h:List Ck):List Ck:=
  match h[i]? with
  | some (.cr md v t s n _)=>h.set i (.cr md v t s n [⟨.int .i64,1,.cI a⟩])
  | _=>h
end Go.RX.Fk

namespace Go.RX.Fl
open Go.RX Go.RX.Fe Go.RX.Fg Go.RX.Fi Go.RX.Fj Go.RX.Fk
def EW(hp:List Ck):SV→List Nat
 | .sl b _ _ _ _=>match findAt hp b with
  | some (j,.row _ _ cs)=>j::roots hp cs
  | _=>[]
 | .vv v=>match ey hp v with
  | some (j,.cr _ _ _ _ _ [⟨.FP l,_,_⟩])=>j::roots hp (l.map .vv)
  | _=>[]
 | _=>[]
def zf:aI:={use:=fun az hp=>roots hp az,inc:={i:=3},val:=fun c=> .nO [.agg [.int .u64 (.var c.i),.int .u64 (.var (c.i+1))],.int .i64 (.var (c.i+2))],new:=fun _ h=>h}
def bj(f:Nat):Option aI:=
 match f with
 | _=>none
def loops(f id:Nat):Option ei:=
 match f,id with
 | _,_=>none
 where
 Pw (g:SV→SV→List SV) (h:List Ck):List Ck:=
  match h.reverse.findIdx? (fun | .row _ true [.int .u64 _,.int .u64 _]=>true | _=>false)with
  | some i=>match h.reverse[i]? with
   | some (.row b w [x,y])=>(h.reverse.set i (.row b w (g x y))).reverse
   | _=>h
  | none=>h
 ajF (e:E) (h:List Ck):List Ck:=Pw (fun _ y=>[.int .u64 e,y]) h
 ajG (e:E) (h:List Ck):List Ck:=Pw (fun x _=>[x,.int .u64 e]) h
end Go.RX.Fl

namespace Go.RX.Fm
open Go.RX Go.RX.Fe Go.RX.Fg Go.RX.Fi Go.RX.Fj Go.RX.Fk Go.RX.Fl
def cW(a:Nat):List bL:=[⟨.int .u32,1,.cI a⟩]
def SW(b h k:Nat):Ck:= .row b true ([.vv h,.vv k]++[4,2,13,22,6,11,25,7,18,3,17,19,10].map fun n:Int=> .int .i64 (.lit n))
def ints(k:IntKind)(i:Nat):Nat→List SV
 | 0=>[]
 | n+1=> .int k (.var i)::ints k (i+1) n
def hpW(c:ct)(h:List Ck):List Ck:=
 match h[(4:Nat)]? with
 | some (.cr md v t s n _)=>h.set 4 (.cr md v t s n (cW c.a))
 | _=>h
def hpX(c:ct)(h:List Ck):List Ck:=
 match h[(5:Nat)]? with
 | some (.row b wr _)=>h.set 5 (.row b wr (ints .u32 c.i 8))
 | _=>h
def ye(a:Nat)(h:List Ck):List Ck:=
 match h[(1:Nat)]? with
 | some (.cr md v t s n _)=>h.set 1 (.cr md v t s n (cW a))
 | _=>h
def hpH(c:ct)(h:List Ck):List Ck:=
 match (ye c.a h)[(5:Nat)]? with
 | some (.row b wr _)=>(ye c.a h).set 5 (.row b wr [.cQ .u32 8 (.cI (c.a+1))])
 | _=>h
def vN(i v:Nat)(n:E)(a:Nat)(h:List Ck):List Ck:=
 let is:=(List.range h.length).filter fun j=>match h[j]? with | some (.cr true _ 5 1 _ _)=>true | _=>false
 match is.reverse[i]? with
 | some j=>Pu j v n a h
 | none=>h
def loops(f id:Nat):Option ei:=
 match f,id with
 | 98,0=>some {inc:={i:=1,a:=1},aU:=fun c=>[(25,.int .i64 (.var c.i))],hp:=hpW}
 | 98,2=>some {inc:={i:=1,a:=1},aU:=fun c=>[(6,.int .i64 (.var c.i))],hp:=hpW}
 | 98,4=>some {inc:={i:=9},aU:=fun c=>[(110,.int .i64 (.var (c.i+8)))],hp:=hpX}
 | 98,6=>some {inc:={i:=1,a:=2},aU:=fun c=>[(189,.int .i64 (.var c.i))],hp:=hpH}
 | 47,2=>some {back:=[.cut 6 true],inc:={i:=1,a:=2,v:=1},aU:=fun c=>[(6,.vv c.v)],hp:=fun c h=>ye (c.a+1) (vN 0 c.v (.var c.i) c.a h)}
 | 47,4=>some {inc:={i:=1,a:=1,v:=1},aU:=fun c=>[(6,.vv c.v)],hp:=fun c h=>vN 0 c.v (.var c.i) c.a h}
 | 47,8=>some {back:=[.cut 6 true],inc:={i:=1,a:=2,v:=1},aU:=fun c=>[(6,.vv c.v)],hp:=fun c h=>ye (c.a+1) (vN 1 c.v (.var c.i) c.a h)}
 | _,_=>none
 where
 pair (a:Nat) (h:List Ck):List Ck:=
  match h[(2:Nat)]? with
  | some (.row b w _)=>h.set 2 (.row b w [.cQ .u64 2 (.cI a)])
  | _=>h
def EX(az:List SV)(hp:List Ck):List Nat:=
 match az with
 | .ptr b 0::r=>
  match findAt hp b with
  | some (j,.row _ _ (.vv h:: .vv k::_))=>
   match ey hp h,ey hp k with
   | some (x,_),some (y,_)=>[j,x,y]++roots hp r
   | _,_=>[]
  | _=>[]
 | _=>[]
def Px(c:ct)(h:List Ck):List Ck:=
 match h with
 | [m,.cr md v t s n _,k,r]=>[m,.cr md v t s n (cW c.a),k,r]
 | h=>h
def K6:aI:={use:=EX,inc:={a:=1},val:=fun _=> .nO [],new:=Px}
def Ho:aI:={use:=fun _ _=>[],inc:={b:=1,v:=2,a:=2},val:=fun c=> .ptr c.b 0,new:=fun c _=>[SW c.b c.v (c.v+1),.cr true c.v 39 1 (.lit 8) (cW c.a),.cr true (c.v+1) 39 1 (.lit 64) (cW (c.a+1))]}
def Py:aI:={use:=fun az hp=>match az with | [m,x]=>EX [m] hp++EW hp x | _=>[],inc:={a:=1,v:=1},val:=fun c=> .vv c.v,new:=fun c h=>zA (.lit 32) c (h.drop 3)}
def sum256:aI:={use:=fun az hp=>match az with | [x]=>EW hp x | _=>[],inc:={a:=1},val:=fun c=> .agg [.cQ .u8 32 (.cI c.a)],new:=fun _ h=>h}
def bj(f:Nat):Option aI:=
 match f with
 | 98=>some K6
 | 46=>some Ho
 | 47=>some Py
 | 22=>some sum256
 | _=>none
open Go.RX Go.Proofs Go.RX.Fe Go.RX.Fg Go.RX.Fi Go.RX.Fj Go.RX.Fk Go.RX.Fl
noncomputable def cx:Ctx:={T:=TT,FT:=FT,loops:=Fm.loops,bj:=Fm.bj}
set_option maxRecDepth 100000
def EY(al:PT)(A0 A1 A2:Nat→Int)(v0 v1 _:V1)(b0:Nat):Prop:=
 ∀_:V1,∃(cE:Ext→Prop) (db:Ext→Nat),(∃(x0:Int) (A3:Nat→Int),x0=0∧(∀j,j<64→A3 j=(fun _=>0) j)∧cE ⟨[],[],[x0],[A3],[],[],[]⟩)∧
 ∀(x0:Int) (A3:Nat→Int),cE ⟨[],[],[x0],[A3],[],[],[]⟩→
 br (x0<64) (
 ax (0≤(ae .i64 (ar .quo .i64 x0 4))) (
 ax ((ae .i64 (ar .quo .i64 x0 4))<64) (
 ax (0≤x0) (
 iQ (x0+1) ((
 ∃(x0':Int) (p_:Nat→Int),x0'=(x0+1)∧(∀j,j<64→p_ j=(aw A3 (ag (ae .i64 (ar .quo .i64 x0 4))) (ar .cz .u32 (ar .shl .u32 (A3 (ag (ae .i64 (ar .quo .i64 x0 4)))) 8) (ae .u32 (A2 (ag x0))))) j)∧cE ⟨[],[],[x0'],[p_],[],[],[]⟩∧db ⟨[],[],[x0'],[p_],[],[],[]⟩<db ⟨[],[],[x0],[A3],[],[],[]⟩)))))) (
 ∃(oW:Ext→Prop) (tz:Ext→Nat),(∃(x1:Int) (A4:Nat→Int),x1=16∧(∀j,j<64→A4 j=A3 j)∧oW ⟨[],[],[x1],[A4],[],[],[]⟩)∧
 ∀(x1:Int) (A4:Nat→Int),oW ⟨[],[],[x1],[A4],[],[],[]⟩→
 br (x1<64) (
 iQ (x1 - 2) ((
 ax (0≤(x1 - 2)) (
 ax ((x1 - 2)<64) (
 iQ (x1 - 7) ((
 ax (0≤(x1 - 7)) (
 ax ((x1 - 7)<64) (
 iQ (x1 - 15) ((
 ax (0≤(x1 - 15)) (
 ax ((x1 - 15)<64) (
 iQ (x1 - 16) ((
 ax (0≤(x1 - 16)) (
 ax ((x1 - 16)<64) (
 ∀_ _:Nat,ax (0≤x1) (
 iQ (x1+1) ((
 ∃(ku:Int) (yn:Nat→Int),ku=(x1+1)∧(∀j,j<64→yn j=(aw A4 (ag x1) (ae .u32 ((ae .u32 ((ae .u32 ((ar .cy .u32 (ar .cy .u32 (ar .cz .u32 (ar .shr .u32 (A4 (ag (x1 - 2))) 17) (ar .shl .u32 (A4 (ag (x1 - 2))) 15)) (ar .cz .u32 (ar .shr .u32 (A4 (ag (x1 - 2))) 19) (ar .shl .u32 (A4 (ag (x1 - 2))) 13))) (ar .shr .u32 (A4 (ag (x1 - 2))) 10))+(A4 (ag (x1 - 7)))))+(ar .cy .u32 (ar .cy .u32 (ar .cz .u32 (ar .shr .u32 (A4 (ag (x1 - 15))) 7) (ar .shl .u32 (A4 (ag (x1 - 15))) 25)) (ar .cz .u32 (ar .shr .u32 (A4 (ag (x1 - 15))) 18) (ar .shl .u32 (A4 (ag (x1 - 15))) 14))) (ar .shr .u32 (A4 (ag (x1 - 15))) 3))))+(A4 (ag (x1 - 16)))))) j)∧oW ⟨[],[],[ku],[yn],[],[],[]⟩∧tz ⟨[],[],[ku],[yn],[],[],[]⟩<tz ⟨[],[],[x1],[A4],[],[],[]⟩)))))))))))))))))))) (
 ∀_:Nat,∃(lZ:Ext→Prop) (py:Ext→Nat),(∃x2 x3 x4 x5 x6 x7 x8 x9 bE:Int,bE=0∧x2=(A0 0)∧x3=(A0 1)∧x4=(A0 2)∧x5=(A0 3)∧x6=(A0 4)∧x7=(A0 5)∧x8=(A0 6)∧x9=(A0 7)∧lZ ⟨[],[],[x2,x3,x4,x5,x6,x7,x8,x9,bE],[],[],[],[]⟩)∧
 ∀x2 x3 x4 x5 x6 x7 x8 x9 bE:Int,lZ ⟨[],[],[x2,x3,x4,x5,x6,x7,x8,x9,bE],[],[],[],[]⟩→
 br (bE<64) (
 ax (0≤bE) (
 ∀_ _:Nat,iQ (bE+1) ((
 ∃gI oU uR qg sx Mc LA sy yp:Int,yp=(bE+1)∧gI=(ae .u32 ((ae .u32 ((ae .u32 ((ae .u32 ((ae .u32 (x9+(ar .cy .u32 (ar .cy .u32 (ar .cz .u32 (ar .shr .u32 x6 6) (ar .shl .u32 x6 26)) (ar .cz .u32 (ar .shr .u32 x6 11) (ar .shl .u32 x6 21))) (ar .cz .u32 (ar .shr .u32 x6 25) (ar .shl .u32 x6 7)))))+(ar .cy .u32 (ar .fJ .u32 x6 x7) (ar .fJ .u32 (ar .cy .u32 4294967295 x6) x8))))+(A1 (ag bE))))+(A4 (ag bE))))+(ae .u32 ((ar .cy .u32 (ar .cy .u32 (ar .cz .u32 (ar .shr .u32 x2 2) (ar .shl .u32 x2 30)) (ar .cz .u32 (ar .shr .u32 x2 13) (ar .shl .u32 x2 19))) (ar .cz .u32 (ar .shr .u32 x2 22) (ar .shl .u32 x2 10)))+(ar .cy .u32 (ar .cy .u32 (ar .fJ .u32 x2 x3) (ar .fJ .u32 x2 x4)) (ar .fJ .u32 x3 x4))))))∧oU=x2∧uR=x3∧qg=x4∧sx=(ae .u32 (x5+(ae .u32 ((ae .u32 ((ae .u32 ((ae .u32 (x9+(ar .cy .u32 (ar .cy .u32 (ar .cz .u32 (ar .shr .u32 x6 6) (ar .shl .u32 x6 26)) (ar .cz .u32 (ar .shr .u32 x6 11) (ar .shl .u32 x6 21))) (ar .cz .u32 (ar .shr .u32 x6 25) (ar .shl .u32 x6 7)))))+(ar .cy .u32 (ar .fJ .u32 x6 x7) (ar .fJ .u32 (ar .cy .u32 4294967295 x6) x8))))+(A1 (ag bE))))+(A4 (ag bE))))))∧Mc=x6∧LA=x7∧sy=x8∧lZ ⟨[],[],[gI,oU,uR,qg,sx,Mc,LA,sy,yp],[],[],[],[]⟩∧py ⟨[],[],[gI,oU,uR,qg,sx,Mc,LA,sy,yp],[],[],[],[]⟩<py ⟨[],[],[x2,x3,x4,x5,x6,x7,x8,x9,bE],[],[],[],[]⟩)))) (
 ∃(qI:Ext→Prop) (wW:Ext→Nat),(∃(bM:Int) (A5 A6:Nat→Int),bM=0∧(∀j,j<8→A5 j=A0 j)∧(∀j,j<8→A6 j=(aw (aw (aw (aw (aw (aw (aw (aw (fun _=>0) 0 x2) 1 x3) 2 x4) 3 x5) 4 x6) 5 x7) 6 x8) 7 x9) j)∧qI ⟨[],[],[bM],[A5,A6],[],[],[]⟩)∧
 ∀(bM:Int) (A5 A6:Nat→Int),qI ⟨[],[],[bM],[A5,A6],[],[],[]⟩→
 br (bM<8) (
 ax (0≤bM) (
 iQ (bM+1) ((
 ∃(pU:Int) (BM G4:Nat→Int),pU=(bM+1)∧(∀j,j<8→BM j=(aw A5 (ag bM) (ae .u32 ((A5 (ag bM))+(A6 (ag bM))))) j)∧(∀j,j<8→G4 j=A6 j)∧qI ⟨[],[],[pU],[BM,G4],[],[],[]⟩∧wW ⟨[],[],[pU],[BM,G4],[],[],[]⟩<wW ⟨[],[],[bM],[A5,A6],[],[],[]⟩)))) (
 al (.tuple #[]) [ak b0 true ([v0.v,v1.v,.int .i64 4,.int .i64 2,.int .i64 13,.int .i64 22,.int .i64 6,.int .i64 11,.int .i64 25,.int .i64 7,.int .i64 18,.int .i64 3,.int .i64 17,.int .i64 19,.int .i64 10]),aB true 39 1 v0.v 8 (aK 8 [aC .u32 1 A5]),aB true 39 1 v1.v 64 (aK 64 [aC .u32 1 A1])]))))
theorem Pz(al:PT)(A0 A1 A2:Nat→Int)(v0 v1 v2:V1)(b0:Nat)(h:EY al A0 A1 A2 v0 v1 v2 b0):aq aqQ 98 [.pointer (some ⟨b0,0,none⟩),v2.v] [ak b0 true ([v0.v,v1.v,.int .i64 4,.int .i64 2,.int .i64 13,.int .i64 22,.int .i64 6,.int .i64 11,.int .i64 25,.int .i64 7,.int .i64 18,.int .i64 3,.int .i64 17,.int .i64 19,.int .i64 10]),aB true 39 1 v0.v 8 (aK 8 [aC .u32 1 A0]),aB true 39 1 v1.v 64 (aK 64 [aC .u32 1 A1]),bn false v2 64 A2] al:=
 sW (C:=Fm.cx) [.ptr 0 0,.vv 2] [.row 0 true [.vv 0,.vv 1,.int .i64 (.lit 4),.int .i64 (.lit 2),.int .i64 (.lit 13),.int .i64 (.lit 22),.int .i64 (.lit 6),.int .i64 (.lit 11),.int .i64 (.lit 25),.int .i64 (.lit 7),.int .i64 (.lit 18),.int .i64 (.lit 3),.int .i64 (.lit 17),.int .i64 (.lit 19),.int .i64 (.lit 10)],.cr true 0 39 1 (.lit 8) [⟨.int .u32,1,.cI 0⟩],.cr true 1 39 1 (.lit 64) [⟨.int .u32,1,.cI 1⟩],.cr false 2 5 1 (.lit 64) [⟨.int .u8,1,.cI 2⟩]] ⟨1,3,0,3,0,0,0⟩ ⟨[],[A0,A1,A2],[],[b0],[v0,v1,v2],[],[],[]⟩ 3 Tryz.func98 (by kernel_rfl) h
def BG(al:PT):Prop:=
 ∀(b0 b1:Nat) (_:V1) (b2:Nat) (_:V1) (b3:Nat) (_:V1) (b4:Nat) (_:V1) (b5:Nat) (_:V1) (b6:Nat) (_:V1) (b7:Nat) (_:V1) (b8:Nat) (v7:V1) (b9 F3:Nat) (_:V1) (IF:Nat) (_:V1) (QH:Nat) (_:V1) (LQ:Nat) (_:V1) (Sf:Nat) (_:V1) (b15:Nat) (_:V1) (b16:Nat) (_:V1) (b17:Nat) (_:V1) (b18:Nat) (_:V1) (b19:Nat) (_:V1) (b20:Nat) (_:V1) (LO:Nat) (_:V1) (b22:Nat) (_:V1) (Yj:Nat) (_:V1) (b24:Nat) (_:V1) (b25:Nat) (_:V1) (b26:Nat) (_:V1) (b27:Nat) (_:V1) (b28:Nat) (_:V1) (b29:Nat) (_:V1) (b30:Nat) (_:V1) (b31:Nat) (_:V1) (b32:Nat) (_:V1) (b33:Nat) (_:V1) (b34:Nat) (_:V1) (b35:Nat) (_:V1) (b36:Nat) (_:V1) (b37:Nat) (_:V1) (b38:Nat) (_:V1) (b39:Nat) (_:V1) (b40:Nat) (_:V1) (b41:Nat) (_:V1) (b42:Nat) (_:V1) (b43:Nat) (_:V1) (b44:Nat) (_:V1) (b45:Nat) (_:V1) (b46:Nat) (_:V1) (b47:Nat) (_:V1) (b48:Nat) (_:V1) (b49:Nat) (_:V1) (b50:Nat) (_:V1) (b51:Nat) (_:V1) (b52:Nat) (_:V1) (b53:Nat) (_:V1) (b54:Nat) (_:V1) (b55:Nat) (_:V1) (b56:Nat) (_:V1) (b57:Nat) (_:V1) (b58:Nat) (_:V1) (b59:Nat) (_:V1) (b60:Nat) (_:V1) (b61:Nat) (_:V1) (b62:Nat) (_:V1) (b63:Nat) (_:V1) (b64:Nat) (_:V1) (b65:Nat) (_:V1) (b66:Nat) (_:V1) (b67:Nat) (_:V1) (b68:Nat) (_:V1) (b69:Nat) (_:V1) (b70:Nat) (_:V1) (b71:Nat) (_:V1) (b72:Nat) (_:V1) (b73:Nat) (v71:V1) (b74:Nat),al (.pointer (some ⟨b74,0,none⟩)) [ak b0 true ([.int .u64 7640891576956012808,.int .u64 13503953896175478587,.int .u64 4354685564936845355,.int .u64 11912009170470909681,.int .u64 5840696475078001361,.int .u64 11170449401992604703,.int .u64 2270897969802886507,.int .u64 6620516959819538809]),ak b1 true ([.int .u32 1779033703]),aB true 39 1 v7.v 8 (aK 8 [aC .u32 1 (aw (aw (aw (aw (aw (aw (aw (aw (fun _=>0) 0 1779033703) 1 3144134277) 2 1013904242) 3 2773480762) 4 1359893119) 5 2600822924) 6 528734635) 7 1541459225)]),ak b2 true ([.int .u32 3144134277]),ak b3 true ([.int .u32 1013904242]),ak b4 true ([.int .u32 2773480762]),ak b5 true ([.int .u32 1359893119]),ak b6 true ([.int .u32 2600822924]),ak b7 true ([.int .u32 528734635]),ak b8 true ([.int .u32 1541459225]),ak b9 true ([.int .u64 4794697086780616226,.int .u64 8158064640168781261,.int .u64 13096744586834688815,.int .u64 16840607885511220156,.int .u64 4131703408338449720,.int .u64 6480981068601479193,.int .u64 10538285296894168987,.int .u64 12329834152419229976,.int .u64 15566598209576043074,.int .u64 1334009975649890238,.int .u64 2608012711638119052,.int .u64 6128411473006802146,.int .u64 8268148722764581231,.int .u64 9286055187155687089,.int .u64 11230858885718282805,.int .u64 13951009754708518548,.int .u64 16472876342353939154,.int .u64 17275323862435702243,.int .u64 1135362057144423861,.int .u64 2597628984639134821,.int .u64 3308224258029322869,.int .u64 5365058923640841347,.int .u64 6679025012923562964,.int .u64 8573033837759648693,.int .u64 10970295158949994411,.int .u64 12119686244451234320,.int .u64 12683024718118986047,.int .u64 13788192230050041572,.int .u64 14330467153632333762,.int .u64 15395433587784984357,.int .u64 489312712824947311,.int .u64 1452737877330783856,.int .u64 2861767655752347644,.int .u64 3322285676063803686,.int .u64 5560940570517711597,.int .u64 5996557281743188959,.int .u64 7280758554555802590,.int .u64 8532644243296465576,.int .u64 9350256976987008742,.int .u64 10552545826968843579,.int .u64 11727347734174303076,.int .u64 12113106623233404929,.int .u64 14000437183269869457,.int .u64 14369950271660146224,.int .u64 15101387698204529176,.int .u64 15463397548674623760,.int .u64 17586052441742319658,.int .u64 1182934255886127544,.int .u64 1847814050463011016,.int .u64 2177327727835720531,.int .u64 2830643537854262169,.int .u64 3796741975233480872,.int .u64 4115178125766777443,.int .u64 5681478168544905931,.int .u64 6601373596472566643,.int .u64 7507060721942968483,.int .u64 8399075790359081724,.int .u64 8693463985226723168,.int .u64 9568029438360202098,.int .u64 10144078919501101548,.int .u64 10430055236837252648,.int .u64 11840083180663258601,.int .u64 13761210420658862357,.int .u64 14299343276471374635,.int .u64 14566680578165727644,.int .u64 15097957966210449927,.int .u64 16922976911328602910,.int .u64 17689382322260857208,.int .u64 500013540394364858,.int .u64 748580250866718886,.int .u64 1242879168328830382,.int .u64 1977374033974150939,.int .u64 2944078676154940804,.int .u64 3659926193048069267,.int .u64 4368137639120453308,.int .u64 4836135668995329356,.int .u64 5532061633213252278,.int .u64 6448918945643986474,.int .u64 6902733635092675308,.int .u64 7801388544844847127]),ak F3 true ([.int .u32 1116352408]),aB true 39 1 v71.v 64 (aK 64 [aC .u32 1 (aw (aw (aw (aw (aw (aw (aw (aw (aw (aw (aw (aw (aw (aw (aw (aw (aw (aw (aw (aw (aw (aw (aw (aw (aw (aw (aw (aw (aw (aw (aw (aw (aw (aw (aw (aw (aw (aw (aw (aw (aw (aw (aw (aw (aw (aw (aw (aw (aw (aw (aw (aw (aw (aw (aw (aw (aw (aw (aw (aw (aw (aw (aw (aw (fun _=>0) 0 1116352408) 1 1899447441) 2 3049323471) 3 3921009573) 4 961987163) 5 1508970993) 6 2453635748) 7 2870763221) 8 3624381080) 9 310598401) 10 607225278) 11 1426881987) 12 1925078388) 13 2162078206) 14 2614888103) 15 3248222580) 16 3835390401) 17 4022224774) 18 264347078) 19 604807628) 20 770255983) 21 1249150122) 22 1555081692) 23 1996064986) 24 2554220882) 25 2821834349) 26 2952996808) 27 3210313671) 28 3336571891) 29 3584528711) 30 113926993) 31 338241895) 32 666307205) 33 773529912) 34 1294757372) 35 1396182291) 36 1695183700) 37 1986661051) 38 2177026350) 39 2456956037) 40 2730485921) 41 2820302411) 42 3259730800) 43 3345764771) 44 3516065817) 45 3600352804) 46 4094571909) 47 275423344) 48 430227734) 49 506948616) 50 659060556) 51 883997877) 52 958139571) 53 1322822218) 54 1537002063) 55 1747873779) 56 1955562222) 57 2024104815) 58 2227730452) 59 2361852424) 60 2428436474) 61 2756734187) 62 3204031479) 63 3329325298)]),ak IF true ([.int .u32 1899447441]),ak QH true ([.int .u32 3049323471]),ak LQ true ([.int .u32 3921009573]),ak Sf true ([.int .u32 961987163]),ak b15 true ([.int .u32 1508970993]),ak b16 true ([.int .u32 2453635748]),ak b17 true ([.int .u32 2870763221]),ak b18 true ([.int .u32 3624381080]),ak b19 true ([.int .u32 310598401]),ak b20 true ([.int .u32 607225278]),ak LO true ([.int .u32 1426881987]),ak b22 true ([.int .u32 1925078388]),ak Yj true ([.int .u32 2162078206]),ak b24 true ([.int .u32 2614888103]),ak b25 true ([.int .u32 3248222580]),ak b26 true ([.int .u32 3835390401]),ak b27 true ([.int .u32 4022224774]),ak b28 true ([.int .u32 264347078]),ak b29 true ([.int .u32 604807628]),ak b30 true ([.int .u32 770255983]),ak b31 true ([.int .u32 1249150122]),ak b32 true ([.int .u32 1555081692]),ak b33 true ([.int .u32 1996064986]),ak b34 true ([.int .u32 2554220882]),ak b35 true ([.int .u32 2821834349]),ak b36 true ([.int .u32 2952996808]),ak b37 true ([.int .u32 3210313671]),ak b38 true ([.int .u32 3336571891]),ak b39 true ([.int .u32 3584528711]),ak b40 true ([.int .u32 113926993]),ak b41 true ([.int .u32 338241895]),ak b42 true ([.int .u32 666307205]),ak b43 true ([.int .u32 773529912]),ak b44 true ([.int .u32 1294757372]),ak b45 true ([.int .u32 1396182291]),ak b46 true ([.int .u32 1695183700]),ak b47 true ([.int .u32 1986661051]),ak b48 true ([.int .u32 2177026350]),ak b49 true ([.int .u32 2456956037]),ak b50 true ([.int .u32 2730485921]),ak b51 true ([.int .u32 2820302411]),ak b52 true ([.int .u32 3259730800]),ak b53 true ([.int .u32 3345764771]),ak b54 true ([.int .u32 3516065817]),ak b55 true ([.int .u32 3600352804]),ak b56 true ([.int .u32 4094571909]),ak b57 true ([.int .u32 275423344]),ak b58 true ([.int .u32 430227734]),ak b59 true ([.int .u32 506948616]),ak b60 true ([.int .u32 659060556]),ak b61 true ([.int .u32 883997877]),ak b62 true ([.int .u32 958139571]),ak b63 true ([.int .u32 1322822218]),ak b64 true ([.int .u32 1537002063]),ak b65 true ([.int .u32 1747873779]),ak b66 true ([.int .u32 1955562222]),ak b67 true ([.int .u32 2024104815]),ak b68 true ([.int .u32 2227730452]),ak b69 true ([.int .u32 2361852424]),ak b70 true ([.int .u32 2428436474]),ak b71 true ([.int .u32 2756734187]),ak b72 true ([.int .u32 3204031479]),ak b73 true ([.int .u32 3329325298]),ak b74 true ([v7.v,v71.v,.int .i64 4,.int .i64 2,.int .i64 13,.int .i64 22,.int .i64 6,.int .i64 11,.int .i64 25,.int .i64 7,.int .i64 18,.int .i64 3,.int .i64 17,.int .i64 19,.int .i64 10])]
theorem K7(al:PT)(h:BG al):aq aqQ 46 [] [] al:=
 xp (C:=Fm.cx) [] [] ⟨0,0,0,0,0,0,0⟩ ⟨[],[],[],[],[],[],[],[]⟩ Tryz.func46 (by kernel_rfl) h
end Go.RX.Fm
