/- 'known'. -/
import Derived.Test.YtllcdnkfbeokhaaGreatM45
open Go.IntKind renaming wrap → ae
open Go.Proofs.Tryz renaming prog → auN
open List renaming getD_cons_zero → ah, length_append → aum, mem_append → auE, mem_singleton → auz
namespace Go.RX.Vb
open Go Go.RX Go.Proofs Go.Vs
set_option maxRecDepth 100000 in
theorem Oy{o:List cV}(h:o=[]∨o=iI):100≤(aZ.enc (plain o)).length∧(aZ.enc (plain o)).length≤1000:=by
 rcases h with rfl | rfl<;>decide
set_option maxRecDepth 100000 in
theorem S3{o:List cV}(h:o=[]∨o=iI): ∀x∈aZ.enc (plain o),x<256:=by
 rcases h with rfl | rfl<;>decide
abbrev kO(s:Vs.State):Vs.State:={s with call:={s.call with me:=⟨0,0⟩}}
set_option maxRecDepth 100000 in
theorem JV{o:List cV}(h:o=[]∨o=iI):kf (kO (plain o)) 31 (-1)=false:=by
 rcases h with rfl | rfl<;>decide
set_option maxRecDepth 100000 in
theorem Oz{o:List cV}(h:o=[]∨o=iI): ∀x∈aZ.enc (kO (plain o)),x<256:=by
 rcases h with rfl | rfl<;>decide
set_option maxRecDepth 100000 in
theorem JW{o:List cV}(h:o=[]∨o=iI):(aZ.enc (kO (plain o))).length≤1000:=by
 rcases h with rfl | rfl<;>decide
theorem OA{o:List cV}(h:o=[]∨o=iI):aZ.ok (kO (plain o)):=by
 obtain⟨h1,h2,h3,⟨h4,h5⟩,h6⟩:=Ht h;exact⟨h1,h2,h3,⟨⟨(by decide:0<256^1),(by decide:0<256^1)⟩,h5⟩,h6⟩
structure Plain (S:Vs.State):Prop where
 may:kf S (S.table.most:Int) ((S.call.fQ:Int) - 1)=true
 ok:aZ.ok S
 len:100≤(aZ.enc S).length∧(aZ.enc S).length≤1000
 lt: ∀x∈aZ.enc S,x<256
 pe:S.table.aL=[]
 arA:kf (kO S) (S.table.most:Int) ((S.call.fQ:Int) - 1)=false
 nok:aZ.ok (kO S)
 alK:(aZ.enc (kO S)).length≤1000
 nlt: ∀x∈aZ.enc (kO S),x<256
theorem Hu{o:List cV}(h:o=[]∨o=iI):Plain (plain o):=
 ⟨Ox h,Ht h,Oy h,S3 h,rfl,JV h,OA h,JW h,Oz h⟩
theorem Bj{l:List Nat}(h: ∀x∈l,x<256): ∀x∈cy l,x<256:=fun x hx=>by
 rcases auE.1 hx with hx | hx
 ·exact wi h x hx
 ·exact EC _ x (List.mem_of_mem_take hx)
theorem take_nil:jD []=9:=by
 have:gK []=none:=by
  unfold gK;rw [if_neg];rintro ⟨_,⟨h,_⟩,_⟩;exact absurd h (by decide)
 unfold jD;rw [if_pos this];rfl
theorem oz(v:V1)(l:List Nat)(hl:fL l)(B:List HP)(hB:bc B (aR false v.v l)):aq auN 17 [v.v] B fun r hs=>
  ∃(u1 u2 u3 u4 u5 u6 u7:V1) (C:Nat→Int),r= .tuple #[.agg (jS (aD l) u1.v u2.v u3.v u4.v u5.v u6.v u7.v).toArray,.int .i64 (jD l)]∧hs=B++ef true (aD l) C u1.v u2.v u3.v u4.v u5.v u6.v u7.v:=by
 refine aq.post (uE v l hl B hB) ?_;rintro r hs ⟨u1,u2,u3,u4,u5,u6,u7,C,H,rfl,rfl,_,_⟩;refine⟨_,bI.sub (List.Sublist.append (List.Sublist.refl B) (List.sublist_append_left _ [H])),u1,u2,u3,u4,u5,u6,u7,C,rfl,rfl⟩
set_option maxRecDepth 100000 in
set_option maxHeartbeats 4000000 in
theorem Hv:aq auN 7 [] [] fun r hs=>r= .bool true∧hs=[]:=by
 refine aq.post (RH (fun r _=>r= .bool true) ?_) ?_;rotate_left
 ·rintro r hs rfl;exact⟨[],bI.sub (List.nil_sublist _),rfl,rfl⟩
 unfold GV;refine⟨_,Ho,?_⟩;rintro x hs ⟨o,v,ho,rfl,rfl⟩;obtain⟨jT,iz,hln,cF,Ir,zb,nok,alK,nlt⟩:=Hu ho;generalize plain o=S at*;have Yd:=zF iz;have Ui:fL (aZ.enc S):=⟨cF,by omega⟩;have hPe:lg (HP.look HP.none) S.table.aL (fun _=>0):=fun i hi=>by rw [Ir]at hi;exact absurd hi (Nat.not_lt_zero i)
 have afg:mH S (S.table.most:Int) ((S.call.fQ:Int) - 1)=0:=by
  unfold mH;rw [if_pos jT,if_neg (by omega)]
 have afh:je S (S.table.most:Int) ((S.call.fQ:Int) - 1)=cy (aZ.enc S):=by
  unfold je;rw [if_pos afg]
 obtain⟨L,hL⟩: ∃L,L=cy (aZ.enc S):=⟨_,rfl⟩;have hwo:=Hn hL (Nat.lt_of_le_of_lt hln.2 (by decide));have hLn:L.length=(aZ.enc S).length+18:=by
  rw [hL,cy,aum,cA,List.length_take,cm];omega
 have hLl: ∀x∈L,x<256:=by
  rw [hL];exact Bj cF
 have hLo:fL L:=⟨hLl,by omega⟩;have hT:gK L=some S:=by
  rw [hL];exact Bi iz (by omega) jT
 have eS:aD L=S:=by unfold aD;rw [hT];rfl
 have eE:jD L=0:=by unfold jD;rw [if_neg (by rw [hT];simp)]
 have IF:=SZ hwo.2.1;have eC:jD (aT L 0 (L.length - 1))=9:=by
  unfold jD;rw [if_pos IF,if_neg];rw [c_ (Nat.zero_le _) (by omega)];omega
 refine⟨v,bj,bj,bj,bj,bj,bj,(S.drawn:Int),(S.table.keys.dev.a:Int),(S.table.keys.dev.d:Int),(S.table.most:Int),(S.call.me.a:Int),(S.call.me.d:Int),(S.call.state:Int),bi S.call.out,(S.call.aP:Int),(S.call.peer.a:Int),(S.call.peer.d:Int),((S.call.fQ:Int) - 1),(S.call.eO:Int),(S.call.bV:Int),(S.call.since:Int),(S.call.heard:Int),(S.call.mC:Int),(S.call.hZ:Int),(S.table.keys.once.length:Int),(S.table.aL.length:Int),(S.call.dead.length:Int),(S.call.marks.length:Int),(S.call.early.length:Int),(S.log.length:Int),(S.aH.length:Int),aI S.mD,aI S.table.keys.ident,aI S.table.keys.signed,aI S.call.dv,aI S.call.id,aI S.call.own,aI S.call.dx,aI S.call.gY,bN cV.id S.table.keys.once,cq cV.cP S.table.keys.once,bN (fun p:ez=>p.dev.a) S.table.aL,bN (fun p:ez=>p.dev.d) S.table.aL,(fun _=>0),cq (fun x=>x) S.call.dead,aI S.call.marks,bN jl.a S.call.early,bN jl.d S.call.early,aI S.log,cq Room.id S.aH,bN Room.aP S.aH,er Room.out S.aH,bN Room.since S.aH,HP.none,rfl,rfl,fun _=>?_⟩;refine⟨_,EH S (S.table.most:Int) ((S.call.fQ:Int) - 1) v bj bj bj bj bj bj (fun _=>0) HP.none hPe (pI Yd Ui) (fun _=>⟨rfl,rfl,Yd⟩) Ui,?_⟩;rw [afg,afh,←hL];rintro x hs ⟨w,rfl,rfl⟩;refine⟨w,0,(L.length:Int),aI L,rfl,rfl,?_⟩;have tk:=oz w L hLo [aR true w.v L] bc.own;rw [eS,eE]at tk;refine⟨_,tk,?_⟩;rintro x hs ⟨u1,u2,u3,u4,u5,u6,u7,C,rfl,rfl⟩
 refine⟨u1,u2,u3,u4,u5,u6,u7,(S.drawn:Int),(S.table.keys.dev.a:Int),(S.table.keys.dev.d:Int),(S.table.most:Int),(S.call.me.a:Int),(S.call.me.d:Int),(S.call.state:Int),bi S.call.out,(S.call.aP:Int),(S.call.peer.a:Int),(S.call.peer.d:Int),((S.call.fQ:Int) - 1),(S.call.eO:Int),(S.call.bV:Int),(S.call.since:Int),(S.call.heard:Int),(S.call.mC:Int),(S.call.hZ:Int),(S.table.keys.once.length:Int),(S.table.aL.length:Int),(S.call.dead.length:Int),(S.call.marks.length:Int),(S.call.early.length:Int),(S.log.length:Int),(S.aH.length:Int),0,aI S.mD,aI S.table.keys.ident,aI S.table.keys.signed,aI S.call.dv,aI S.call.id,aI S.call.own,aI S.call.dx,aI S.call.gY,bN cV.id S.table.keys.once,cq cV.cP S.table.keys.once,bN (fun p:ez=>p.dev.a) S.table.aL,bN (fun p:ez=>p.dev.d) S.table.aL,C,cq (fun x=>x) S.call.dead,aI S.call.marks,bN jl.a S.call.early,bN jl.d S.call.early,aI S.log,cq Room.id S.aH,bN Room.aP S.aH,er Room.out S.aH,bN Room.since S.aH,HP.none,rfl,rfl,fun _=>⟨.inr (Int.natCast_nonneg _),fun _=>⟨fun _=>?_,fun h=>absurd h ?_⟩⟩⟩;rotate_left
 ·simp only [not_true_eq_false,false_or,Classical.not_not];omega
 refine⟨_,Bh S u1 u2 u3 u4 u5 u6 u7 C HP.none (fun i hi=>by rw [Ir]at hi;exact absurd hi (Nat.not_lt_zero i)) Yd (by omega),?_⟩;rintro x hs ⟨b,rfl,rfl⟩;refine⟨b,((aZ.enc S).length:Int),aI (aZ.enc S),rfl,rfl,?_⟩;rw [if_pos (by simp;omega)];refine⟨_,Bh S v bj bj bj bj bj bj (fun _=>0) HP.none hPe Yd (by omega),?_⟩;rintro x hs ⟨b',rfl,rfl⟩;refine⟨b',((aZ.enc S).length:Int),aI (aZ.enc S),rfl,rfl,⟨fun _=>?_,fun h=>absurd rfl h⟩⟩;refine⟨_,Lr S (S.table.most:Int) ((S.call.fQ:Int) - 1) v bj bj bj bj bj bj (fun _=>0) HP.none hPe (pI Yd Ui),?_⟩;rintro x hs ⟨rfl,rfl⟩;refine⟨true,congrArg Value.bool jT,rfl,⟨fun h=>absurd rfl h,fun _=>?_⟩⟩;refine⟨_,oz bj [] ⟨(fun x h=>nomatch h),Nat.zero_le _⟩ [] bc.nil,?_⟩;rw [take_nil];rintro x hs ⟨u1,u2,u3,u4,u5,u6,u7,C,rfl,rfl⟩
 refine⟨u1,u2,u3,u4,u5,u6,u7,((aD []).drawn:Int),((aD []).table.keys.dev.a:Int),((aD []).table.keys.dev.d:Int),((aD []).table.most:Int),((aD []).call.me.a:Int),((aD []).call.me.d:Int),((aD []).call.state:Int),bi (aD []).call.out,((aD []).call.aP:Int),((aD []).call.peer.a:Int),((aD []).call.peer.d:Int),(((aD []).call.fQ:Int) - 1),((aD []).call.eO:Int),((aD []).call.bV:Int),((aD []).call.since:Int),((aD []).call.heard:Int),((aD []).call.mC:Int),((aD []).call.hZ:Int),((aD []).table.keys.once.length:Int),((aD []).table.aL.length:Int),((aD []).call.dead.length:Int),((aD []).call.marks.length:Int),((aD []).call.early.length:Int),((aD []).log.length:Int),((aD []).aH.length:Int),9,aI (aD []).mD,aI (aD []).table.keys.ident,aI (aD []).table.keys.signed,aI (aD []).call.dv,aI (aD []).call.id,aI (aD []).call.own,aI (aD []).call.dx,aI (aD []).call.gY,bN cV.id (aD []).table.keys.once,cq cV.cP (aD []).table.keys.once,bN (fun p:ez=>p.dev.a) (aD []).table.aL,bN (fun p:ez=>p.dev.d) (aD []).table.aL,C,cq (fun x=>x) (aD []).call.dead,aI (aD []).call.marks,bN jl.a (aD []).call.early,bN jl.d (aD []).call.early,aI (aD []).log,cq Room.id (aD []).aH,bN Room.aP (aD []).aH,er Room.out (aD []).aH,bN Room.since (aD []).aH,HP.none,rfl,rfl,fun _=>⟨Int.natCast_nonneg _,fun _=>⟨by omega,fun _=>⟨by omega,fun _=>⟨by omega,fun _=>⟨by omega,fun _=>?_⟩⟩⟩⟩⟩⟩;have en:((L.length:Int) - 1).toNat=L.length - 1:=by omega
 rw [en];have tk2:=oz ⟨aF 1 w.v 0 (L.length - 1) none,bR _ _ _ _ _⟩ (aT L 0 (L.length - 1)) (sq hLo) [aR true w.v L] (lO bc.own (Nat.zero_le _) (by omega));rw [eC]at tk2;refine⟨_,tk2,?_⟩;rintro x hs ⟨u1,u2,u3,u4,u5,u6,u7,C,rfl,rfl⟩
 refine⟨u1,u2,u3,u4,u5,u6,u7,((aD (aT L 0 (L.length - 1))).drawn:Int),((aD (aT L 0 (L.length - 1))).table.keys.dev.a:Int),((aD (aT L 0 (L.length - 1))).table.keys.dev.d:Int),((aD (aT L 0 (L.length - 1))).table.most:Int),((aD (aT L 0 (L.length - 1))).call.me.a:Int),((aD (aT L 0 (L.length - 1))).call.me.d:Int),((aD (aT L 0 (L.length - 1))).call.state:Int),bi (aD (aT L 0 (L.length - 1))).call.out,((aD (aT L 0 (L.length - 1))).call.aP:Int),((aD (aT L 0 (L.length - 1))).call.peer.a:Int),((aD (aT L 0 (L.length - 1))).call.peer.d:Int),(((aD (aT L 0 (L.length - 1))).call.fQ:Int) - 1),((aD (aT L 0 (L.length - 1))).call.eO:Int),((aD (aT L 0 (L.length - 1))).call.bV:Int),((aD (aT L 0 (L.length - 1))).call.since:Int),((aD (aT L 0 (L.length - 1))).call.heard:Int),((aD (aT L 0 (L.length - 1))).call.mC:Int),((aD (aT L 0 (L.length - 1))).call.hZ:Int),((aD (aT L 0 (L.length - 1))).table.keys.once.length:Int),((aD (aT L 0 (L.length - 1))).table.aL.length:Int),((aD (aT L 0 (L.length - 1))).call.dead.length:Int),((aD (aT L 0 (L.length - 1))).call.marks.length:Int),((aD (aT L 0 (L.length - 1))).call.early.length:Int),((aD (aT L 0 (L.length - 1))).log.length:Int),((aD (aT L 0 (L.length - 1))).aH.length:Int),9,aI (aD (aT L 0 (L.length - 1))).mD,aI (aD (aT L 0 (L.length - 1))).table.keys.ident,aI (aD (aT L 0 (L.length - 1))).table.keys.signed,aI (aD (aT L 0 (L.length - 1))).call.dv,aI (aD (aT L 0 (L.length - 1))).call.id,aI (aD (aT L 0 (L.length - 1))).call.own,aI (aD (aT L 0 (L.length - 1))).call.dx,aI (aD (aT L 0 (L.length - 1))).call.gY,bN cV.id (aD (aT L 0 (L.length - 1))).table.keys.once,cq cV.cP (aD (aT L 0 (L.length - 1))).table.keys.once,bN (fun p:ez=>p.dev.a) (aD (aT L 0 (L.length - 1))).table.aL,bN (fun p:ez=>p.dev.d) (aD (aT L 0 (L.length - 1))).table.aL,C,cq (fun x=>x) (aD (aT L 0 (L.length - 1))).call.dead,aI (aD (aT L 0 (L.length - 1))).call.marks,bN jl.a (aD (aT L 0 (L.length - 1))).call.early,bN jl.d (aD (aT L 0 (L.length - 1))).call.early,aI (aD (aT L 0 (L.length - 1))).log,cq Room.id (aD (aT L 0 (L.length - 1))).aH,bN Room.aP (aD (aT L 0 (L.length - 1))).aH,er Room.out (aD (aT L 0 (L.length - 1))).aH,bN Room.since (aD (aT L 0 (L.length - 1))).aH,HP.none,rfl,rfl,fun _=>?_⟩
 have hSn:=zF nok;have hbn:fL (aZ.enc (kO S)):=⟨nlt,by omega⟩;have eN:mH (kO S) (S.table.most:Int) ((S.call.fQ:Int) - 1)=2:=by
  unfold mH;rw [if_neg (by rw [zb];simp)]
 refine⟨_,EH (kO S) (S.table.most:Int) ((S.call.fQ:Int) - 1) v bj bj bj bj bj bj (fun _=>0) HP.none hPe (pI hSn hbn) (fun _=>⟨rfl,rfl,hSn⟩) hbn,?_⟩;rw [eN];rintro x hs ⟨w2,rfl,rfl⟩;refine⟨w2,2,((je (kO S) (S.table.most:Int) ((S.call.fQ:Int) - 1)).length:Int),aI (je (kO S) (S.table.most:Int) ((S.call.fQ:Int) - 1)),rfl,rfl,⟨fun _=>?_,fun h=>absurd ⟨⟨rfl,rfl⟩,rfl⟩ h⟩⟩;refine⟨_,Lr (kO S) (S.table.most:Int) ((S.call.fQ:Int) - 1) v bj bj bj bj bj bj (fun _=>0) HP.none hPe (pI hSn hbn),?_⟩;rintro x hs ⟨rfl,rfl⟩;exact⟨false,congrArg Value.bool zb,rfl,rfl⟩
open Go Go.RX Go.Proofs Go.Vs
def rbL(l:List Nat):List Nat:=if l.length<18 then []else aT l 10 (l.length - 8)
def OB(l:List Nat):Bool:=if l.length<18 then false else cy (aT l 10 (l.length - 8))==l
theorem JX(v:V1)(l:List Nat)(hl:fL l)(hn:l.length<256^4):aq auN 18 [v.v] [aR false v.v l] fun r hs=>
  ∃o:V1,r= .tuple #[o.v,.bool (OB l)]∧hs=[aR false v.v l,aR false o.v (rbL l)]:=by
 refine aq.post (aq.looks (Hr v l hl hn) fun h hh=>by rw [auz.1 hh];rfl) ?_;rintro r hs ⟨rfl,h1,h2⟩;by_cases h:l.length<18
 ·have e1:rbL l=[]:=if_pos h;have e2:OB l=false:=if_pos h;rw [e1,e2];refine⟨_,bI.views (A:=[]) (B:=[aR false v.v l]) (L:=[aR false v.v l,aR false bj.v []]) fun x hx=>?_,bj,h1 h,rfl⟩;simp only [List.mem_cons,List.not_mem_nil,or_false]at hx;rcases hx with rfl | rfl
  ·exact bc.self rfl
  ·exact bc.nil
 ·have e1:rbL l=aT l 10 (l.length - 8):=if_neg h;have e2:OB l=(cy (aT l 10 (l.length - 8))==l):=if_neg h;rw [e1,e2];exact⟨_,Be (by omega) (by omega),⟨_,bR _ _ _ _ _⟩,h2 (by omega),rfl⟩
open Go Go.RX Go.Proofs Go.Vs
theorem W3{l:List Nat}(hl: ∀x∈l,x<256){S:Vs.State}(ht:gK l=some S):OB l=true∧rbL l=aZ.enc S:=by
 obtain⟨h0,h1,h2,h3,h4,h5⟩:=yw hl ht;constructor
 ·unfold OB;rw [if_neg (by omega),h3,←h1];exact beq_self_eq_true l
 ·unfold rbL;rw [if_neg (by omega),h3]
set_option maxRecDepth 100000 in
theorem OC(v:V1)(l:List Nat)(hl:fL l)(hn:l.length≤4194304):aq auN 19 [v.v] [aR false v.v l] fun r hs=>hs=[]∧r= .bool true:=by
 refine aq.post (VQ (fun r _=>r= .bool true) (l.length:Int) (aI l) v ?_) ?_;rotate_left
 ·rintro r hs rfl;exact⟨[],bI.sub (List.nil_sublist _),rfl,rfl⟩
 unfold KY;refine⟨_,oz v l hl [aR false v.v l] (bc.self rfl),?_⟩;rintro x hs ⟨u1,u2,u3,u4,u5,u6,u7,C,rfl,rfl⟩;refine⟨u1,u2,u3,u4,u5,u6,u7,((aD l).drawn:Int),((aD l).table.keys.dev.a:Int),((aD l).table.keys.dev.d:Int),((aD l).table.most:Int),((aD l).call.me.a:Int),((aD l).call.me.d:Int),((aD l).call.state:Int),bi (aD l).call.out,((aD l).call.aP:Int),((aD l).call.peer.a:Int),((aD l).call.peer.d:Int),(((aD l).call.fQ:Int) - 1),((aD l).call.eO:Int),((aD l).call.bV:Int),((aD l).call.since:Int),((aD l).call.heard:Int),((aD l).call.mC:Int),((aD l).call.hZ:Int),((aD l).table.keys.once.length:Int),((aD l).table.aL.length:Int),((aD l).call.dead.length:Int),((aD l).call.marks.length:Int),((aD l).call.early.length:Int),((aD l).log.length:Int),((aD l).aH.length:Int),jD l,aI (aD l).mD,aI (aD l).table.keys.ident,aI (aD l).table.keys.signed,aI (aD l).call.dv,aI (aD l).call.id,aI (aD l).call.own,aI (aD l).call.dx,aI (aD l).call.gY,bN cV.id (aD l).table.keys.once,cq cV.cP (aD l).table.keys.once,bN (fun p:ez=>p.dev.a) (aD l).table.aL,bN (fun p:ez=>p.dev.d) (aD l).table.aL,C,cq (fun x=>x) (aD l).call.dead,aI (aD l).call.marks,bN jl.a (aD l).call.early,bN jl.d (aD l).call.early,aI (aD l).log,cq Room.id (aD l).aH,bN Room.aP (aD l).aH,er Room.out (aD l).aH,bN Room.since (aD l).aH,HP.none,rfl,rfl,fun _=>?_⟩;refine⟨_,JX v l hl (Nat.lt_of_le_of_lt hn (by decide)),?_⟩;rintro x hs ⟨o,rfl,rfl⟩;refine⟨o,((rbL l).length:Int),aI (rbL l),OB l,rfl,rfl,?_⟩;cases ht:gK l with
 | none=>
  have e:jD l=9:=by
   unfold jD;rw [if_pos ht,if_neg (by omega)]
  rw [e];rfl
 | some S=>
  rw [(W3 hl.b ht).1,Bool.or_true]
theorem uF(v:Value)(hv:v.oneCell'=true)(l:List Nat)(hl:fL l)(hn:l.length≤4194304)(B:List HP)(hB:bc B (aR false v l)):aq auN 19 [v] B fun r hs=>hs=B∧r= .bool true:=
 mi (OC ⟨v,hv⟩ l hl hn) fun h hh=>by rw [auz.1 hh];exact hB
def Bk(l:List cf):Nat:=(l.map fun e=>400+68*e.s.aN.length).sum
def Pl(l:List ez):Nat:=(l.map fun p=>Bk p.l).sum
def nN(s:Vs.State):Nat:=s.log.length+32*s.aH.length+16*s.call.dead.length+s.call.marks.length+s.call.early.length+40*s.table.keys.once.length+Pl s.table.aL
theorem Hw{α:Type}(f:α→Nat)(l:List α)(i:Nat)(h:i<l.length):((l.take (i+1)).map f).sum=((l.take i).map f).sum+f l[i]:=by
 rw [iN _ _ h,List.map_append,List.sum_append];simp
theorem Ls(a:Int):ae .i64 a=if 9223372036854775808≤a%18446744073709551616 then a%18446744073709551616 - 18446744073709551616 else a%18446744073709551616:=by
 show(if(true&&decide (a%2^64≥2^63))=true then a%2^64 - 2^64 else a%2^64)=_;simp only [Bool.true_and,decide_eq_true_eq,ge_iff_le];rfl
theorem wrap_add(a b c:Int)(h:ae .i64 a=ae .i64 b):ae .i64 (ae .i64 a+c)=ae .i64 (b+c):=by
 simp only [Ls]at h ⊢;split at h<;>split at h<;>split<;>omega
theorem Lt(a:Int)(h:0≤a)(h':a≤9223372036854775807):ae .i64 a=a:=by
 rw [Ls,if_neg (by omega)];omega
theorem S4(C:Nat→Int)(i:Nat)(V:V1)(hV:V.v=cc (C i)):(fun j=>if j=i then V.v else cc (C j))=fun j=>cc (C j):=by
 funext j;by_cases hj:j=i
 ·rw [if_pos hj,hV,hj]
 ·rw [if_neg hj]
set_option maxRecDepth 100000 in
set_option maxHeartbeats 4000000 in
theorem JY(s:Vs.State)(most cM:Int)(u1 u2 u3 u4 u5 u6 u7:V1)(C:Nat→Int)(H:HP)(hH:H.wr=false)(hP:lg H s.table.aL C)(hs:si s):
  aq auN 8 [.agg (jY s most cM u1.v u2.v u3.v u4.v u5.v u6.v u7.v).toArray] (ef false s C u1.v u2.v u3.v u4.v u5.v u6.v u7.v++[H]) fun r hs=>hs=[]∧r= .bool (decide (60000<ae .i64 (nN s:Int))):=by
 refine aq.post (RB (fun r _=>r= .bool (decide (60000<ae .i64 (nN s:Int)))) (s.drawn:Int) (s.table.keys.dev.a:Int) (s.table.keys.dev.d:Int) most (s.call.me.a:Int) (s.call.me.d:Int) (s.call.state:Int) (bi s.call.out) (s.call.aP:Int) (s.call.peer.a:Int) (s.call.peer.d:Int) cM (s.call.eO:Int) (s.call.bV:Int) (s.call.since:Int) (s.call.heard:Int) (s.call.mC:Int) (s.call.hZ:Int) (s.table.keys.once.length:Int) (s.table.aL.length:Int) (s.call.dead.length:Int) (s.call.marks.length:Int) (s.call.early.length:Int) (s.log.length:Int) (s.aH.length:Int) (aI s.mD) (aI s.table.keys.ident) (aI s.table.keys.signed) (aI s.call.dv) (aI s.call.id) (aI s.call.own) (aI s.call.dx) (aI s.call.gY) (bN cV.id s.table.keys.once) (cq cV.cP s.table.keys.once) (bN (fun p:ez=>p.dev.a) s.table.aL) (bN (fun p:ez=>p.dev.d) s.table.aL) C (cq (fun x=>x) s.call.dead) (aI s.call.marks) (bN jl.a s.call.early) (bN jl.d s.call.early) (aI s.log) (cq Room.id s.aH) (bN Room.aP s.aH) (er Room.out s.aH) (bN Room.since s.aH) u1 u2 u3 u4 u5 u6 u7 H ?_) ?_;rotate_left
 ·rintro r hs rfl;exact⟨[],bI.sub (List.nil_sublist _),rfl,rfl⟩
 unfold GO;have h1:=hs.once;have h2:=hs.dead;have h3:=hs.marks;have h4:=hs.early;have h5:=hs.log.n;have h6:=hs.aH;have h7:=hs.aL;rw [show(256^4:Nat)=4294967296 by decide]at h1 h2 h3 h4 h6 h7;intro b0
 iterate 4 refine⟨by omega,fun _=>?_⟩
 iterate 4 refine⟨by omega,fun _=>?_⟩
 iterate 4 refine⟨by omega,fun _=>?_⟩
 iterate 4 refine⟨by omega,fun _=>?_⟩
 iterate 4 refine⟨by omega,fun _=>?_⟩
 iterate 3 refine⟨by omega,fun _=>?_⟩
 obtain⟨base,Ye⟩: ∃base:Nat,base=s.log.length+32*s.aH.length+16*s.call.dead.length+s.call.marks.length+s.call.early.length+40*s.table.keys.once.length:=⟨_,rfl⟩;have hN:nN s=base+Pl s.table.aL:=by rw [Ye];rfl
 refine⟨fun e=> ∃(i:Nat) (x:Int),e=⟨[],[],[x,(i:Int)],[],[],[],[]⟩∧i≤s.table.aL.length∧ae .i64 x=ae .i64 ((base+Pl (s.table.aL.take i):Nat):Int),fun e=>s.table.aL.length - (e.i.getD 1 0).toNat,?_,?_⟩
 ·refine⟨(base:Int),0,?_,rfl,0,(base:Int),rfl,Nat.zero_le _,rfl⟩;rw [Lt _ (by omega) (by omega),Ye];omega
 rintro fU jR ⟨i,x,hx,hi,hw⟩;have hx:=hx.symm;simp only [Ext.mk.injEq,List.cons.injEq,and_true,true_and]at hx;obtain⟨rfl,rfl⟩:=hx;refine⟨fun cF=>?_,fun mn=>?_⟩
 ·have cD:i<s.table.aL.length:=by omega
  obtain⟨D,hg,hS⟩:=hP i cD;obtain⟨p,hp⟩: ∃p,p=s.table.aL[i]:=⟨_,rfl⟩;have hpo:kb p:=by rw [hp];exact hs.peer _ (List.getElem_mem cD)
  rw [←hp]at hg hS;obtain⟨V,hV⟩: ∃V:V1,V.v=cc (C i):=⟨⟨cc (C i),kG _⟩,rfl⟩;rw [←hV]at hg;have ept:=S4 C i V hV;have eps:aB false 68 3 u2.v s.table.aL.length (aM s.table.aL.length [ay .u8 1 (bN (·.dev.a) s.table.aL),ay .u8 1 (bN (·.dev.d) s.table.aL),eA 1 (fun j=>if j=i then V.v else cc (C j))])=za false u2.v s.table.aL C:=by rw [ept]
  have P3:=hpo.many;rw [show(256^4:Nat)=4294967296 by decide]at P3;refine⟨fun e=>e=⟨[],[V],[(p.l.length:Int)],[cq (·.s.root) p.l,cq (·.s.bind) p.l,cq (·.s.own) p.l,cq (·.s.ej) p.l,er (·.s.jO) p.l,er (·.s.jP) p.l,er (·.s.jQ) p.l,er (·.s.eD) p.l,cq (·.s.send.key) p.l,bN (·.s.send.n) p.l,cq (·.s.recv.key) p.l,bN (·.s.recv.n) p.l,bN (·.s.prev) p.l,D,cq (·.ident) p.l,cq (·.ux) p.l,er (·.ek) p.l,bN (·.eW) p.l,er (·.own) p.l,er (·.current) p.l],[],[],[]⟩,fun w Fs ho=>⟨V,(p.l.length:Int),cq (·.s.root) p.l,cq (·.s.bind) p.l,cq (·.s.own) p.l,cq (·.s.ej) p.l,er (·.s.jO) p.l,er (·.s.jP) p.l,er (·.s.jQ) p.l,er (·.s.eD) p.l,cq (·.s.send.key) p.l,bN (·.s.send.n) p.l,cq (·.s.recv.key) p.l,bN (·.s.recv.n) p.l,bN (·.s.prev) p.l,D,cq (·.ident) p.l,cq (·.ux) p.l,er (·.ek) p.l,bN (·.eW) p.l,er (·.own) p.l,er (·.current) p.l,?_,rfl⟩,?_⟩
  ·have e1:bI [za false u2.v s.table.aL C,H] [za false u2.v s.table.aL C,H,eX false V.v p.l D]:=bI.front (A:=[_]) (bI.trans (gZ.X2 hH hg) (bI.perm (List.Perm.swap _ _ _)));have e2:bI [za false u2.v s.table.aL C,H] [aB false 68 3 u2.v s.table.aL.length (aM s.table.aL.length [ay .u8 1 (bN (·.dev.a) s.table.aL),ay .u8 1 (bN (·.dev.d) s.table.aL),eA 1 (fun j=>if j=i then V.v else cc (C j))]),H,eX false V.v p.l D]:=by
    rw [eps];exact e1
   exact e2 w Fs ho
  rintro v7 kV iH jW jX k_ n_ nj o_ q_ qP ri tc uQ vQ yZ zz yn zA y8 zB zC he;have he:=he.symm;simp only [Ext.mk.injEq,List.cons.injEq,and_true,true_and]at he;obtain⟨rfl,rfl,rfl,rfl,rfl,rfl,rfl,rfl,rfl,rfl,rfl,rfl,rfl,rfl,rfl,rfl,rfl,rfl,rfl,rfl,rfl,rfl⟩:=he;refine⟨by omega,fun _ b1=>⟨fun _=>True,fun w Fs ho=>⟨?_,trivial⟩,fun _=>?_⟩⟩
  ·have e1:bI [aB false 68 3 u2.v s.table.aL.length (aM s.table.aL.length [ay .u8 1 (bN (·.dev.a) s.table.aL),ay .u8 1 (bN (·.dev.d) s.table.aL),eA 1 (fun j=>if j=i then V.v else cc (C j))]),eX false V.v p.l D] [za false u2.v s.table.aL C,eX false V.v p.l D]:=by
    rw [eps];exact bI.refl _
   exact e1 w Fs ho
  refine⟨by omega,fun _=>?_⟩;refine⟨fun e=> ∃(j:Nat) (y:Int),e=⟨[],[],[y,(j:Int)],[],[],[],[]⟩∧j≤p.l.length∧ae .i64 y=ae .i64 ((base+Pl (s.table.aL.take i)+Bk (p.l.take j):Nat):Int),fun e=>p.l.length - (e.i.getD 1 0).toNat,?_,?_⟩
  ·exact⟨x,0,rfl,rfl,0,x,rfl,Nat.zero_le _,hw⟩
  rintro jC oY ⟨j,y,hy,hj,hwy⟩;have hy:=hy.symm;simp only [Ext.mk.injEq,List.cons.injEq,and_true,true_and]at hy;obtain⟨rfl,rfl⟩:=hy;refine⟨fun ajE=>?_,fun Wx=>?_⟩
  ·have lq:j<p.l.length:=by omega
   have X5:=hS j lq;have heo:=hpo.AP _ (List.getElem_mem lq);obtain⟨sk,UX⟩: ∃sk,sk=p.l[j].s.aN:=⟨_,rfl⟩;have afk:=heo.many;rw [←UX]at X5 afk;rw [show(256^4:Nat)=4294967296 by decide]at afk;obtain⟨V2,hV2⟩: ∃V2:V1,V2.v=cc (D j):=⟨⟨cc (D j),kG _⟩,rfl⟩;rw [←hV2]at X5;have alM:=S4 D j V2 hV2;have afl:aB false 77 268 V.v p.l.length (aM p.l.length [ay .u8 32 (cq (·.s.root) p.l),ay .u8 32 (cq (·.s.bind) p.l),ay .u8 32 (cq (·.s.own) p.l),ay .u8 32 (cq (·.s.ej) p.l),cY 1 (er (·.s.jO) p.l),cY 1 (er (·.s.jP) p.l),cY 1 (er (·.s.jQ) p.l),cY 1 (er (·.s.eD) p.l),ay .u8 32 (cq (·.s.send.key) p.l),ay .u32 1 (bN (·.s.send.n) p.l),ay .u8 32 (cq (·.s.recv.key) p.l),ay .u32 1 (bN (·.s.recv.n) p.l),ay .u32 1 (bN (·.s.prev) p.l),eA 1 (fun k=>if k=j then V2.v else cc (D k)),ay .u8 32 (cq (·.ident) p.l),ay .u8 32 (cq (·.ux) p.l),cY 1 (er (·.ek) p.l),ay .u32 1 (bN (·.eW) p.l),cY 1 (er (·.own) p.l),cY 1 (er (·.current) p.l)])=eX false V.v p.l D:=by rw [alM]
   refine⟨fun e=>e=⟨[],[V2],[(sk.length:Int)],[aI (sk.flatMap gX.dh),bN gX.n sk,aI (sk.flatMap gX.msg)],[],[],[]⟩,fun w Fs ho=>⟨V2,(sk.length:Int),aI (sk.flatMap gX.dh),bN gX.n sk,aI (sk.flatMap gX.msg),?_,rfl⟩,?_⟩
   ·have e1:bI [eX false V.v p.l D,H] [eX false V.v p.l D,H,pF false V2.v sk]:=bI.front (A:=[_]) (bI.trans (gZ.X2 hH X5) (bI.perm (List.Perm.swap _ _ _)));have e2:bI [eX false V.v p.l D,H] [aB false 77 268 V.v p.l.length (aM p.l.length [ay .u8 32 (cq (·.s.root) p.l),ay .u8 32 (cq (·.s.bind) p.l),ay .u8 32 (cq (·.s.own) p.l),ay .u8 32 (cq (·.s.ej) p.l),cY 1 (er (·.s.jO) p.l),cY 1 (er (·.s.jP) p.l),cY 1 (er (·.s.jQ) p.l),cY 1 (er (·.s.eD) p.l),ay .u8 32 (cq (·.s.send.key) p.l),ay .u32 1 (bN (·.s.send.n) p.l),ay .u8 32 (cq (·.s.recv.key) p.l),ay .u32 1 (bN (·.s.recv.n) p.l),ay .u32 1 (bN (·.s.prev) p.l),eA 1 (fun k=>if k=j then V2.v else cc (D k)),ay .u8 32 (cq (·.ident) p.l),ay .u8 32 (cq (·.ux) p.l),cY 1 (er (·.ek) p.l),ay .u32 1 (bN (·.eW) p.l),cY 1 (er (·.own) p.l),cY 1 (er (·.current) p.l)]),H,pF false V2.v sk]:=by
     rw [afl];exact e1
    exact e2 w Fs ho
   rintro v8 nS Cq y9 AL he;have he:=he.symm;simp only [Ext.mk.injEq,List.cons.injEq,and_true,true_and]at he;obtain⟨rfl,rfl,rfl,rfl,rfl⟩:=he;refine⟨by omega,fun _ b2=>⟨fun _=>True,fun w Fs ho=>⟨?_,trivial⟩,fun _=>?_⟩⟩
   ·have e4:bI [aB false 77 268 V.v p.l.length (aM p.l.length [ay .u8 32 (cq (·.s.root) p.l),ay .u8 32 (cq (·.s.bind) p.l),ay .u8 32 (cq (·.s.own) p.l),ay .u8 32 (cq (·.s.ej) p.l),cY 1 (er (·.s.jO) p.l),cY 1 (er (·.s.jP) p.l),cY 1 (er (·.s.jQ) p.l),cY 1 (er (·.s.eD) p.l),ay .u8 32 (cq (·.s.send.key) p.l),ay .u32 1 (bN (·.s.send.n) p.l),ay .u8 32 (cq (·.s.recv.key) p.l),ay .u32 1 (bN (·.s.recv.n) p.l),ay .u32 1 (bN (·.s.prev) p.l),eA 1 (fun k=>if k=j then V2.v else cc (D k)),ay .u8 32 (cq (·.ident) p.l),ay .u8 32 (cq (·.ux) p.l),cY 1 (er (·.ek) p.l),ay .u32 1 (bN (·.eW) p.l),cY 1 (er (·.own) p.l),cY 1 (er (·.current) p.l)]),pF false V2.v sk] [eX false V.v p.l D,pF false V2.v sk]:=by
     rw [afl];exact bI.refl _
    exact e4 w Fs ho
   iterate 7 refine⟨by omega,fun _=>?_⟩
   refine⟨fun _=>True,fun w Fs ho=>⟨bI.sub (a:=[_]) (b:=[]) (List.nil_sublist _) w Fs ho,trivial⟩,fun _=>?_⟩;have S5:ae .i64 (ae .i64 y+(400+68*(sk.length:Int)))=ae .i64 ((base+Pl (s.table.aL.take i)+Bk (p.l.take (j+1)):Nat):Int):=by
    rw [wrap_add _ _ _ hwy];congr 1;unfold Bk;rw [Hw _ _ _ lq,←UX];omega
   refine⟨ae .i64 y+(400+68*(sk.length:Int)),((j+1:Nat):Int),rfl,rfl,⟨j+1,_,rfl,by omega,S5⟩,?_⟩;simp only [List.getD_cons_succ,ah];omega
  ·have hjl:j=p.l.length:=by omega
   subst hjl;refine⟨by omega,fun _=>⟨by omega,fun _=>?_⟩⟩;refine⟨fun _=>True,fun w Fs ho=>⟨bI.sub (a:=[_]) (b:=[]) (List.nil_sublist _) w Fs ho,trivial⟩,fun _=>?_⟩;have S5:ae .i64 y=ae .i64 ((base+Pl (s.table.aL.take (i+1)):Nat):Int):=by
    rw [hwy,List.take_length];congr 1;unfold Pl;rw [Hw _ _ _ cD,←hp];omega
   refine⟨y,((i+1:Nat):Int),rfl,rfl,⟨i+1,_,rfl,by omega,S5⟩,?_⟩;simp only [List.getD_cons_succ,ah];omega
 ·have DV:i=s.table.aL.length:=by omega
  subst DV;rw [hw,List.take_length,←hN]
end Go.RX.Vb
