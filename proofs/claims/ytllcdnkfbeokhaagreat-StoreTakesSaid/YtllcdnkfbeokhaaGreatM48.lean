/- 'known'. -/
import Derived.Test.YtllcdnkfbeokhaaGreatM47
import Derived.ProofKit
open Bool renaming and_eq_true → ai
open Go.Proofs.Tryz renaming prog → aqQ
open Int renaming toNat → ag
open List renaming getD_eq_getElem?_getD → aqN, getElem?_eq_none → aq3, length_append → aql, mem_append → aqC, mem_map → aqV, mem_of_getElem? → aqG, mem_singleton → aqx
namespace Go.RX.Vb
open Go Go.RX Go.Proofs Go.Vs
set_option maxRecDepth 100000 in
theorem Lk{o:List dx}(h:o=[]∨o=hU):100≤(bq.enc (plain o)).length∧(bq.enc (plain o)).length≤1000:=by
 rcases h with rfl | rfl<;>decide
set_option maxRecDepth 100000 in
theorem PO{o:List dx}(h:o=[]∨o=hU): ∀x∈bq.enc (plain o),x<256:=by
 rcases h with rfl | rfl<;>decide
abbrev ke(s:Vs.State):Vs.State:={s with call:={s.call with me:=⟨0,0⟩}}
set_option maxRecDepth 100000 in
theorem HE{o:List dx}(h:o=[]∨o=hU):lL (ke (plain o)) 31 (-1)=false:=by
 rcases h with rfl | rfl<;>decide
set_option maxRecDepth 100000 in
theorem Ll{o:List dx}(h:o=[]∨o=hU): ∀x∈bq.enc (ke (plain o)),x<256:=by
 rcases h with rfl | rfl<;>decide
set_option maxRecDepth 100000 in
theorem HF{o:List dx}(h:o=[]∨o=hU):(bq.enc (ke (plain o))).length≤1000:=by
 rcases h with rfl | rfl<;>decide
theorem Lm{o:List dx}(h:o=[]∨o=hU):bq.ok (ke (plain o)):=by
 obtain⟨h1,h2,h3,⟨h4,h5⟩,h6⟩:=Fo h;exact⟨h1,h2,h3,⟨⟨(by decide:0<256^1),(by decide:0<256^1)⟩,h5⟩,h6⟩
structure Plain (S:Vs.State):Prop where
 may:lL S (S.table.most:Int) ((S.call.hJ:Int) - 1)=true
 ok:bq.ok S
 len:100≤(bq.enc S).length∧(bq.enc S).length≤1000
 lt: ∀x∈bq.enc S,x<256
 pe:S.table.bA=[]
 anS:lL (ke S) (S.table.most:Int) ((S.call.hJ:Int) - 1)=false
 nok:bq.ok (ke S)
 ahQ:(bq.enc (ke S)).length≤1000
 nlt: ∀x∈bq.enc (ke S),x<256
theorem Fp{o:List dx}(h:o=[]∨o=hU):Plain (plain o):=
 ⟨Lj h,Fo h,Lk h,PO h,rfl,HE h,Lm h,HF h,Ll h⟩
theorem PQ{l:List Nat}(h: ∀x∈l,x<256): ∀x∈dt l,x<256:=fun x hx=>by
 rcases aqC.1 hx with hx | hx
 ·exact uH h x hx
 ·exact CL _ x (List.mem_of_mem_take hx)
theorem take_nil:lR []=9:=by
 have:gH []=none:=by
  unfold gH;rw [if_neg];rintro ⟨_,⟨h,_⟩,_⟩;exact absurd h (by decide)
 unfold lR;rw [if_pos this];rfl
theorem qQ(v:V1)(l:List Nat)(hl:fX l)(B:List HP)(hB:bc B (aT false v.v l)):aq aqQ 17 [v.v] B fun r hs=>
  ∃(u1 u2 u3 u4 u5 u6 u7:V1) (C:Nat→Int),r= .tuple #[.agg (jO (aG l) u1.v u2.v u3.v u4.v u5.v u6.v u7.v).toArray,.int .i64 (lR l)]∧hs=B++fj true (aG l) C u1.v u2.v u3.v u4.v u5.v u6.v u7.v:=by
 refine aq.post (zH v l hl B hB) ?_;rintro r hs ⟨u1,u2,u3,u4,u5,u6,u7,C,H,rfl,rfl,_,_⟩;refine⟨_,bJ.sub (List.Sublist.append (List.Sublist.refl B) (List.sublist_append_left _ [H])),u1,u2,u3,u4,u5,u6,u7,C,rfl,rfl⟩
set_option maxRecDepth 100000 in
set_option maxHeartbeats 4000000 in
theorem Fq:aq aqQ 7 [] [] fun r hs=>r= .bool true∧hs=[]:=by
 refine aq.post (NY (fun r _=>r= .bool true) ?_) ?_;rotate_left
 ·rintro r hs rfl;exact⟨[],bJ.sub (List.nil_sublist _),rfl,rfl⟩
 unfold Em;refine⟨_,E9,?_⟩;rintro x hs ⟨o,v,ho,rfl,rfl⟩;obtain⟨oc,jf,hln,cq,F5,xH,nok,ahQ,nlt⟩:=Fp ho;generalize plain o=S at*;have hSt:=CM jf;have QN:fX (bq.enc S):=⟨cq,by omega⟩;have hPe:ob (HP.look HP.none) S.table.bA (fun _=>0):=fun i hi=>by rw [F5]at hi;exact absurd hi (Nat.not_lt_zero i)
 have abA:s9 S (S.table.most:Int) ((S.call.hJ:Int) - 1)=0:=by
  unfold s9;rw [if_pos oc,if_neg (by omega)]
 have abB:lM S (S.table.most:Int) ((S.call.hJ:Int) - 1)=dt (bq.enc S):=by
  unfold lM;rw [if_pos abA]
 obtain⟨L,hL⟩: ∃L,L=dt (bq.enc S):=⟨_,rfl⟩;have hwo:=E8 hL (Nat.lt_of_le_of_lt hln.2 (by decide));have hLn:L.length=(bq.enc S).length+18:=by
  rw [hL,dt,aql,cM,List.length_take,cm];omega
 have hLl: ∀x∈L,x<256:=by
  rw [hL];exact PQ cq
 have hLo:fX L:=⟨hLl,by omega⟩;have hT:gH L=some S:=by
  rw [hL];exact HD jf (by omega) oc
 have eS:aG L=S:=by unfold aG;rw [hT];rfl
 have eE:lR L=0:=by unfold lR;rw [if_neg (by rw [hT];simp)]
 have Gk:=PN hwo.2.1;have eC:lR (aQ L 0 (L.length - 1))=9:=by
  unfold lR;rw [if_pos Gk,if_neg];rw [c_ (Nat.zero_le _) (by omega)];omega
 refine⟨v,bg,bg,bg,bg,bg,bg,(S.drawn:Int),(S.table.keys.dev.a:Int),(S.table.keys.dev.d:Int),(S.table.most:Int),(S.call.me.a:Int),(S.call.me.d:Int),(S.call.state:Int),bi S.call.out,(S.call.aX:Int),(S.call.peer.a:Int),(S.call.peer.d:Int),((S.call.hJ:Int) - 1),(S.call.fi:Int),(S.call.cc:Int),(S.call.since:Int),(S.call.heard:Int),(S.call.oa:Int),(S.call.jh:Int),(S.table.keys.once.length:Int),(S.table.bA.length:Int),(S.call.dead.length:Int),(S.call.marks.length:Int),(S.call.early.length:Int),(S.log.length:Int),(S.aO.length:Int),aL S.oN,aL S.table.keys.ident,aL S.table.keys.signed,aL S.call.d_,aL S.call.id,aL S.call.own,aL S.call.ef,aL S.call.jg,cu dx.id S.table.keys.once,dV dx.dY S.table.keys.once,cu (fun p:fp=>p.dev.a) S.table.bA,cu (fun p:fp=>p.dev.d) S.table.bA,(fun _=>0),dV (fun x=>x) S.call.dead,aL S.call.marks,cu jW.a S.call.early,cu jW.d S.call.early,aL S.log,dV Room.id S.aO,cu Room.aX S.aO,jm Room.out S.aO,cu Room.since S.aO,HP.none,rfl,rfl,fun _=>?_⟩;refine⟨_,CR S (S.table.most:Int) ((S.call.hJ:Int) - 1) v bg bg bg bg bg bg (fun _=>0) HP.none hPe (m5 hSt QN) (fun _=>⟨rfl,rfl,hSt⟩) QN,?_⟩;rw [abA,abB,←hL];rintro x hs ⟨w,rfl,rfl⟩;refine⟨w,0,(L.length:Int),aL L,rfl,rfl,?_⟩;have tk:=qQ w L hLo [aT true w.v L] bc.own;rw [eS,eE]at tk;refine⟨_,tk,?_⟩;rintro x hs ⟨u1,u2,u3,u4,u5,u6,u7,C,rfl,rfl⟩
 refine⟨u1,u2,u3,u4,u5,u6,u7,(S.drawn:Int),(S.table.keys.dev.a:Int),(S.table.keys.dev.d:Int),(S.table.most:Int),(S.call.me.a:Int),(S.call.me.d:Int),(S.call.state:Int),bi S.call.out,(S.call.aX:Int),(S.call.peer.a:Int),(S.call.peer.d:Int),((S.call.hJ:Int) - 1),(S.call.fi:Int),(S.call.cc:Int),(S.call.since:Int),(S.call.heard:Int),(S.call.oa:Int),(S.call.jh:Int),(S.table.keys.once.length:Int),(S.table.bA.length:Int),(S.call.dead.length:Int),(S.call.marks.length:Int),(S.call.early.length:Int),(S.log.length:Int),(S.aO.length:Int),0,aL S.oN,aL S.table.keys.ident,aL S.table.keys.signed,aL S.call.d_,aL S.call.id,aL S.call.own,aL S.call.ef,aL S.call.jg,cu dx.id S.table.keys.once,dV dx.dY S.table.keys.once,cu (fun p:fp=>p.dev.a) S.table.bA,cu (fun p:fp=>p.dev.d) S.table.bA,C,dV (fun x=>x) S.call.dead,aL S.call.marks,cu jW.a S.call.early,cu jW.d S.call.early,aL S.log,dV Room.id S.aO,cu Room.aX S.aO,jm Room.out S.aO,cu Room.since S.aO,HP.none,rfl,rfl,fun _=>⟨.inr (Int.natCast_nonneg _),fun _=>⟨fun _=>?_,fun h=>absurd h ?_⟩⟩⟩;rotate_left
 ·simp only [not_true_eq_false,false_or,Classical.not_not];omega
 refine⟨_,zG S u1 u2 u3 u4 u5 u6 u7 C HP.none (fun i hi=>by rw [F5]at hi;exact absurd hi (Nat.not_lt_zero i)) hSt (by omega),?_⟩;rintro x hs ⟨b,rfl,rfl⟩;refine⟨b,((bq.enc S).length:Int),aL (bq.enc S),rfl,rfl,?_⟩;rw [if_pos (by simp;omega)];refine⟨_,zG S v bg bg bg bg bg bg (fun _=>0) HP.none hPe hSt (by omega),?_⟩;rintro x hs ⟨b',rfl,rfl⟩;refine⟨b',((bq.enc S).length:Int),aL (bq.enc S),rfl,rfl,⟨fun _=>?_,fun h=>absurd rfl h⟩⟩;refine⟨_,CS S (S.table.most:Int) ((S.call.hJ:Int) - 1) v bg bg bg bg bg bg (fun _=>0) HP.none hPe (m5 hSt QN),?_⟩;rintro x hs ⟨rfl,rfl⟩;refine⟨true,congrArg Value.bool oc,rfl,⟨fun h=>absurd rfl h,fun _=>?_⟩⟩;refine⟨_,qQ bg [] ⟨(fun x h=>nomatch h),Nat.zero_le _⟩ [] bc.nil,?_⟩;rw [take_nil];rintro x hs ⟨u1,u2,u3,u4,u5,u6,u7,C,rfl,rfl⟩
 refine⟨u1,u2,u3,u4,u5,u6,u7,((aG []).drawn:Int),((aG []).table.keys.dev.a:Int),((aG []).table.keys.dev.d:Int),((aG []).table.most:Int),((aG []).call.me.a:Int),((aG []).call.me.d:Int),((aG []).call.state:Int),bi (aG []).call.out,((aG []).call.aX:Int),((aG []).call.peer.a:Int),((aG []).call.peer.d:Int),(((aG []).call.hJ:Int) - 1),((aG []).call.fi:Int),((aG []).call.cc:Int),((aG []).call.since:Int),((aG []).call.heard:Int),((aG []).call.oa:Int),((aG []).call.jh:Int),((aG []).table.keys.once.length:Int),((aG []).table.bA.length:Int),((aG []).call.dead.length:Int),((aG []).call.marks.length:Int),((aG []).call.early.length:Int),((aG []).log.length:Int),((aG []).aO.length:Int),9,aL (aG []).oN,aL (aG []).table.keys.ident,aL (aG []).table.keys.signed,aL (aG []).call.d_,aL (aG []).call.id,aL (aG []).call.own,aL (aG []).call.ef,aL (aG []).call.jg,cu dx.id (aG []).table.keys.once,dV dx.dY (aG []).table.keys.once,cu (fun p:fp=>p.dev.a) (aG []).table.bA,cu (fun p:fp=>p.dev.d) (aG []).table.bA,C,dV (fun x=>x) (aG []).call.dead,aL (aG []).call.marks,cu jW.a (aG []).call.early,cu jW.d (aG []).call.early,aL (aG []).log,dV Room.id (aG []).aO,cu Room.aX (aG []).aO,jm Room.out (aG []).aO,cu Room.since (aG []).aO,HP.none,rfl,rfl,fun _=>⟨Int.natCast_nonneg _,fun _=>⟨by omega,fun _=>⟨by omega,fun _=>⟨by omega,fun _=>⟨by omega,fun _=>?_⟩⟩⟩⟩⟩⟩;have en:((L.length:Int) - 1).toNat=L.length - 1:=by omega
 rw [en];have tk2:=qQ ⟨aE 1 w.v 0 (L.length - 1) none,bT _ _ _ _ _⟩ (aQ L 0 (L.length - 1)) (uI hLo) [aT true w.v L] (pD bc.own (Nat.zero_le _) (by omega));rw [eC]at tk2;refine⟨_,tk2,?_⟩;rintro x hs ⟨u1,u2,u3,u4,u5,u6,u7,C,rfl,rfl⟩
 refine⟨u1,u2,u3,u4,u5,u6,u7,((aG (aQ L 0 (L.length - 1))).drawn:Int),((aG (aQ L 0 (L.length - 1))).table.keys.dev.a:Int),((aG (aQ L 0 (L.length - 1))).table.keys.dev.d:Int),((aG (aQ L 0 (L.length - 1))).table.most:Int),((aG (aQ L 0 (L.length - 1))).call.me.a:Int),((aG (aQ L 0 (L.length - 1))).call.me.d:Int),((aG (aQ L 0 (L.length - 1))).call.state:Int),bi (aG (aQ L 0 (L.length - 1))).call.out,((aG (aQ L 0 (L.length - 1))).call.aX:Int),((aG (aQ L 0 (L.length - 1))).call.peer.a:Int),((aG (aQ L 0 (L.length - 1))).call.peer.d:Int),(((aG (aQ L 0 (L.length - 1))).call.hJ:Int) - 1),((aG (aQ L 0 (L.length - 1))).call.fi:Int),((aG (aQ L 0 (L.length - 1))).call.cc:Int),((aG (aQ L 0 (L.length - 1))).call.since:Int),((aG (aQ L 0 (L.length - 1))).call.heard:Int),((aG (aQ L 0 (L.length - 1))).call.oa:Int),((aG (aQ L 0 (L.length - 1))).call.jh:Int),((aG (aQ L 0 (L.length - 1))).table.keys.once.length:Int),((aG (aQ L 0 (L.length - 1))).table.bA.length:Int),((aG (aQ L 0 (L.length - 1))).call.dead.length:Int),((aG (aQ L 0 (L.length - 1))).call.marks.length:Int),((aG (aQ L 0 (L.length - 1))).call.early.length:Int),((aG (aQ L 0 (L.length - 1))).log.length:Int),((aG (aQ L 0 (L.length - 1))).aO.length:Int),9,aL (aG (aQ L 0 (L.length - 1))).oN,aL (aG (aQ L 0 (L.length - 1))).table.keys.ident,aL (aG (aQ L 0 (L.length - 1))).table.keys.signed,aL (aG (aQ L 0 (L.length - 1))).call.d_,aL (aG (aQ L 0 (L.length - 1))).call.id,aL (aG (aQ L 0 (L.length - 1))).call.own,aL (aG (aQ L 0 (L.length - 1))).call.ef,aL (aG (aQ L 0 (L.length - 1))).call.jg,cu dx.id (aG (aQ L 0 (L.length - 1))).table.keys.once,dV dx.dY (aG (aQ L 0 (L.length - 1))).table.keys.once,cu (fun p:fp=>p.dev.a) (aG (aQ L 0 (L.length - 1))).table.bA,cu (fun p:fp=>p.dev.d) (aG (aQ L 0 (L.length - 1))).table.bA,C,dV (fun x=>x) (aG (aQ L 0 (L.length - 1))).call.dead,aL (aG (aQ L 0 (L.length - 1))).call.marks,cu jW.a (aG (aQ L 0 (L.length - 1))).call.early,cu jW.d (aG (aQ L 0 (L.length - 1))).call.early,aL (aG (aQ L 0 (L.length - 1))).log,dV Room.id (aG (aQ L 0 (L.length - 1))).aO,cu Room.aX (aG (aQ L 0 (L.length - 1))).aO,jm Room.out (aG (aQ L 0 (L.length - 1))).aO,cu Room.since (aG (aQ L 0 (L.length - 1))).aO,HP.none,rfl,rfl,fun _=>?_⟩
 have hSn:=CM nok;have Yv:fX (bq.enc (ke S)):=⟨nlt,by omega⟩;have eN:s9 (ke S) (S.table.most:Int) ((S.call.hJ:Int) - 1)=2:=by
  unfold s9;rw [if_neg (by rw [xH];simp)]
 refine⟨_,CR (ke S) (S.table.most:Int) ((S.call.hJ:Int) - 1) v bg bg bg bg bg bg (fun _=>0) HP.none hPe (m5 hSn Yv) (fun _=>⟨rfl,rfl,hSn⟩) Yv,?_⟩;rw [eN];rintro x hs ⟨w2,rfl,rfl⟩;refine⟨w2,2,((lM (ke S) (S.table.most:Int) ((S.call.hJ:Int) - 1)).length:Int),aL (lM (ke S) (S.table.most:Int) ((S.call.hJ:Int) - 1)),rfl,rfl,⟨fun _=>?_,fun h=>absurd ⟨⟨rfl,rfl⟩,rfl⟩ h⟩⟩;refine⟨_,CS (ke S) (S.table.most:Int) ((S.call.hJ:Int) - 1) v bg bg bg bg bg bg (fun _=>0) HP.none hPe (m5 hSn Yv),?_⟩;rintro x hs ⟨rfl,rfl⟩;exact⟨false,congrArg Value.bool xH,rfl,rfl⟩
open Go Go.RX Go.Proofs Go.Vs
def Xv(l:List Nat):List Nat:=if l.length<18 then []else aQ l 10 (l.length - 8)
def Ln(l:List Nat):Bool:=if l.length<18 then false else dt (aQ l 10 (l.length - 8))==l
theorem HG(v:V1)(l:List Nat)(hl:fX l)(hn:l.length<256^4):aq aqQ 18 [v.v] [aT false v.v l] fun r hs=>
  ∃o:V1,r= .tuple #[o.v,.bool (Ln l)]∧hs=[aT false v.v l,aT false o.v (Xv l)]:=by
 refine aq.post (aq.looks (Fc v l hl hn) fun h hh=>by rw [aqx.1 hh];rfl) ?_;rintro r hs ⟨rfl,h1,h2⟩;by_cases h:l.length<18
 ·have e1:Xv l=[]:=if_pos h;have e2:Ln l=false:=if_pos h;rw [e1,e2];refine⟨_,bJ.views (A:=[]) (B:=[aT false v.v l]) (L:=[aT false v.v l,aT false bg.v []]) fun x hx=>?_,bg,h1 h,rfl⟩;simp only [List.mem_cons,List.not_mem_nil,or_false]at hx;rcases hx with rfl | rfl
  ·exact bc.self rfl
  ·exact bc.nil
 ·have e1:Xv l=aQ l 10 (l.length - 8):=if_neg h;have e2:Ln l=(dt (aQ l 10 (l.length - 8))==l):=if_neg h;rw [e1,e2];exact⟨_,zD (by omega) (by omega),⟨_,bT _ _ _ _ _⟩,h2 (by omega),rfl⟩
theorem Ft{l:List Nat}(h:l.length≤100000):lR l=if gH l=none then 9 else 0:=by
 unfold lR;by_cases hc:gH l=none
 ·rw [if_pos hc,if_pos hc,if_neg (by omega)]
 ·rw [if_neg hc,if_neg hc]
set_option maxRecDepth 100000 in
set_option maxHeartbeats 4000000 in
theorem Fu(v:V1)(l:List Nat)(hl:fX l):aq aqQ 5 [v.v] [aT false v.v l] fun r _=>r= .bool true:=by
 refine NM (fun r _=>r= .bool true) (l.length:Int) (aL l) v ?_;unfold El;refine⟨_,Fq,?_⟩;rintro x hs ⟨rfl,rfl⟩;refine⟨rfl,rfl,⟨Int.natCast_nonneg _,fun _=>⟨fun _=>rfl,fun DR=>?_⟩⟩⟩;have sU:l.length≤100000:=by omega
 intro v1;refine⟨by omega,fun _=>?_⟩;intro v2;refine⟨_,zH v2 l hl [aT true v2.v l] bc.own,?_⟩;rintro x hs ⟨u1,u2,u3,u4,u5,u6,u7,C,H,rfl,rfl,hH,hP⟩;refine⟨u1,u2,u3,u4,u5,u6,u7,((aG l).drawn:Int),((aG l).table.keys.dev.a:Int),((aG l).table.keys.dev.d:Int),((aG l).table.most:Int),((aG l).call.me.a:Int),((aG l).call.me.d:Int),((aG l).call.state:Int),bi (aG l).call.out,((aG l).call.aX:Int),((aG l).call.peer.a:Int),((aG l).call.peer.d:Int),(((aG l).call.hJ:Int) - 1),((aG l).call.fi:Int),((aG l).call.cc:Int),((aG l).call.since:Int),((aG l).call.heard:Int),((aG l).call.oa:Int),((aG l).call.jh:Int),((aG l).table.keys.once.length:Int),((aG l).table.bA.length:Int),((aG l).call.dead.length:Int),((aG l).call.marks.length:Int),((aG l).call.early.length:Int),((aG l).log.length:Int),((aG l).aO.length:Int),lR l,aL (aG l).oN,aL (aG l).table.keys.ident,aL (aG l).table.keys.signed,aL (aG l).call.d_,aL (aG l).call.id,aL (aG l).call.own,aL (aG l).call.ef,aL (aG l).call.jg,cu dx.id (aG l).table.keys.once,dV dx.dY (aG l).table.keys.once,cu (fun p:fp=>p.dev.a) (aG l).table.bA,cu (fun p:fp=>p.dev.d) (aG l).table.bA,C,dV (fun x=>x) (aG l).call.dead,aL (aG l).call.marks,cu jW.a (aG l).call.early,cu jW.d (aG l).call.early,aL (aG l).log,dV Room.id (aG l).aO,cu Room.aX (aG l).aO,jm Room.out (aG l).aO,cu Room.since (aG l).aO,H,rfl,rfl,fun _=>?_⟩;refine⟨_,HG v l hl (Nat.lt_of_le_of_lt sU (by decide)),?_⟩;rintro x hs ⟨o,rfl,rfl⟩;refine⟨o,((Xv l).length:Int),aL (Xv l),Ln l,rfl,rfl,?_⟩;rw [Ft sU];cases ht:gH l with
 | none=>
  rw [if_pos rfl];have eS:aG l=yg:=by unfold aG;rw [ht];rfl
  rw [eS];refine⟨fun _=>?_,fun h=>absurd (by decide) h⟩;refine⟨.inr (by decide),fun _=>⟨.inr (by decide),fun _=>⟨.inr (by decide),fun _=>⟨.inr (by decide),fun _=>⟨.inr (by decide),fun _=>⟨.inr (by decide),fun _=>⟨.inr (by decide),fun _=>?_⟩⟩⟩⟩⟩⟩⟩;rfl
 | some S=>
  rw [if_neg (by simp)];have eS:aG l=S:=by unfold aG;rw [ht];rfl
  rw [eS]at hP ⊢;obtain⟨h0,h1,h2,h3,h4,h5⟩:=E7 hl.b ht;refine⟨fun h=>absurd rfl h,fun _=>?_⟩;have hb:fX (bq.enc S):=by rw [←h3];exact uI hl
  have eP:s9 S (S.table.most:Int) ((S.call.hJ:Int) - 1)=0:=by
   unfold s9;rw [if_pos h4,if_neg];rw [←h3,c_ (by omega) (by omega)];omega
  have eL:lM S (S.table.most:Int) ((S.call.hJ:Int) - 1)=l:=by
   unfold lM;rw [if_pos eP];exact h1.symm
  have put:=CR S (S.table.most:Int) ((S.call.hJ:Int) - 1) u1 u2 u3 u4 u5 u6 u7 C H hP (m5 h2 hb) (fun _=>⟨rfl,rfl,h2⟩) hb;rw [eP,eL]at put;refine⟨_,put,?_⟩;rintro x hs ⟨w,rfl,rfl⟩;refine⟨w,0,(l.length:Int),aL l,rfl,rfl,?_⟩;have ok:Ln l=true:=by
   unfold Ln;rw [if_neg (by omega),h3,←h1];exact beq_self_eq_true l
  have rb:Xv l=bq.enc S:=by
   unfold Xv;rw [if_neg (by omega),h3]
  refine⟨fun _=>?_,fun h=>absurd ok h⟩;refine⟨_,CS S (S.table.most:Int) ((S.call.hJ:Int) - 1) u1 u2 u3 u4 u5 u6 u7 C H hP (m5 h2 hb),?_⟩;rintro x hs ⟨rfl,rfl⟩;refine⟨true,congrArg Value.bool h4,rfl,⟨fun _=>?_,fun h=>absurd ⟨⟨rfl,rfl⟩,rfl⟩ h⟩⟩;refine⟨_,zG S u1 u2 u3 u4 u5 u6 u7 C H hP h2 (by rw [←h3,c_ (by omega) (by omega)];omega),?_⟩;rintro x hs ⟨b,rfl,rfl⟩;refine⟨b,((bq.enc S).length:Int),aL (bq.enc S),rfl,rfl,?_⟩;rw [rb];exact congrArg Value.bool (beq_self_eq_true _)
open Go Go.RX Go.Proofs
open Go.ChangeShapes Go.WideShapes Go.ChangeAt Go.RowKit
theorem HH{L:List HP}{w:World}(h: ∀x∈L,x.wr=false∧∃S:Nat→Prop,x.p w S∧∀k,S k→k<w.heap.size):bG (L++[yv w.heap.size w]) w:=by
 have h1: ∀x∈L++[yv w.heap.size w],x.wr=false∧∃S:Nat→Prop,x.p w S∧∀k,S k→k<w.heap.size:=by
  intro x hx;rcases aqC.1 hx with hx | hx
  ·exact h x hx
  ·simp only [List.mem_cons,List.not_mem_nil,or_false]at hx;subst hx;exact⟨rfl,fun k=>k<w.heap.size,⟨fun _=>Iff.rfl,fun _ _=>rfl⟩,fun _ h=>h⟩
 generalize L++[yv w.heap.size w]=M at h1;have h2: ∀i:Nat,∃S:Nat→Prop,∀x,M[i]? =some x→x.p w S∧∀k,S k→k<w.heap.size:=by
  intro i;cases hi:M[i]? with
  | none=>exact⟨fun _=>False,fun x hx=>by cases hx⟩
  | some y=>
   obtain⟨_,S,hp,hk⟩:=h1 y (aqG hi);exact⟨S,fun x hx=>by cases hx;exact⟨hp,hk⟩⟩
 refine⟨fun i=>(h2 i).choose,⟨fun i x hx=>(h2 i).choose_spec x hx,?_⟩⟩;intro i j x y _ hi hj uS;rw [(h1 x (aqG hi)).1,(h1 y (aqG hj)).1]at uS;simp at uS
theorem PR{k:IntKind}{w:World}{a:Option Addr}{len cap:Nat}{zs:List Int}(h:sj k w a len cap zs)(abC:k.min=0)(j:Nat):0≤zs.getD j 0∧(zs.getD j 0≤k.max∨zs.getD j 0=0):=by
 rcases h with⟨_,_,_,rfl⟩ | ⟨_,_,_,_,_,_,hw⟩
 ·simp
 ·by_cases hj:j<zs.length
  ·have:=hw zs[j] (List.getElem_mem hj);simp only [Lit.wf,ai,decide_eq_true_eq]at this;simp [hj];omega
  ·simp [aq3 (by omega:zs.length≤j)]
theorem Xw{w:World}{a:Option Addr}{len cap:Nat}{zs:List Int}(h:sj .u8 w a len cap zs)(j:Nat):(zs.getD j 0).toNat<256:=by
 have:=PR h (by decide) j;rw [show IntKind.u8.max=255 by decide]at this;omega
def jU(len:Nat)(zs:List Int):List Nat:=(zs.take len).map ag
theorem qR{w:World}{a:Option Addr}{len cap:Nat}{zs:List Int}(h:sj .u8 w a len cap zs):(jU len zs).length=len:=by
 rcases h with⟨_,rfl,_,rfl⟩ | ⟨_,_,h1,_,h2,_⟩
 ·rfl
 ·rw [jU,List.length_map,List.length_take];omega
theorem S_{w:World}{a:Option Addr}{len cap:Nat}{zs:List Int}(h:sj .u8 w a len cap zs): ∀x∈jU len zs,x<256:=by
 intro x hx;obtain⟨y,hy,rfl⟩:=aqV.1 hx;obtain⟨j,hj,rfl⟩:=List.mem_iff_getElem.1 (List.mem_of_mem_take hy);have:=Xw h j
 rwa [aqN,List.getElem?_eq_getElem hj,Option.getD_some]at this
theorem PS{w:World}{a:Option Addr}{len cap:Nat}{zs:List Int}(h:sj .u8 w a len cap zs){j:Nat}(hj:j<len):aL (jU len zs) j=zs.getD j 0:=by
 rw [iF (by rw [qR h];exact hj)];have hz:j<zs.length:=by
  rcases h with⟨_,rfl,_,rfl⟩ | ⟨_,_,h1,_,h2,_⟩<;>omega
 simp only [jU,List.getElem_map,List.getElem_take];have:=(PR h (by decide) j).1;rw [aqN,List.getElem?_eq_getElem hz,Option.getD_some]at this ⊢;omega
theorem HI{w:World}{a:Option Addr}{len cap:Nat}{zs:List Int}(h:sj .u8 w a len cap zs): ∃S:Nat→Prop,(aT false (.slice a len cap) (jU len zs)).p w S∧∀k,S k→k<w.heap.size:=by
 refine⟨_,?_,(Bq h 5).2⟩;have e:aT false (.slice a len cap) (jU len zs)=aB false 5 1 (.slice a len cap) len (aK len [aC .u8 1 fun i=>zs.getD i 0]):=by
  rw [aT,qR h];exact congrArg (aB false 5 1 (.slice a len cap) len) (GF fun i hi=>PS h hi)
 rw [e];exact(Bq h 5).1
section
variable {H:Type} {enc:TypeId×Value→H} {w:World} {base:Nat} {held:Bool}
theorem Fv{fuel:Nat}{cs:List Value}{x:DataW H×List MemPlace}(h:DataW.trod enc aqQ w base (fun _=>true) held fuel 37 cs=some x)(hz: ∀q∈x.1.weights aqQ 37,q≤reachBytes): ∃a len cap zs,cs=[.slice a len cap]∧sj .u8 w a len cap zs∧len≤140737488355328:=by
 rcases open_ints Tryz.underlying37 Tryz.underlying5 (by kernel_rfl) h with⟨mC,_⟩ | ⟨x,l,c,zs,mC,_,hl,hm,Qm,rfl,j6,hwz⟩
 ·exact⟨none,0,0,[],mC,.inl ⟨rfl,rfl,rfl,rfl⟩,by omega⟩
 ·simp only [if_true]at Qm;refine⟨some x,l,c,zs,mC,.inr ⟨x,rfl,hl,hm,Qm,j6,hwz⟩,?_⟩;have hb:Tryz.prog.bytesOf 5=1:=by kernel_rfl
  have:=hz ((zs.take l).length+(zs.drop l).length) (by simp [DataW.weights,Tryz.underlying37,hb,lits]);have hr:=reachBytes_lt;simp only [List.length_take,List.length_drop]at this;omega
end
end Go.RX.Vb
