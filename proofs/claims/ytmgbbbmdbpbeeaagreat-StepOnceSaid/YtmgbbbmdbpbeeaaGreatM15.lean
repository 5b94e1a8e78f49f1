/- Executor. -/
import Derived.Test.YtmgbbbmdbpbeeaaGreatM14
open Array renaming getD_eq_getD_getElem? → ai7, getElem?_eq_some_iff → aiY
open Bool renaming and_eq_true → ai
open Go.Region renaming binds → ajK
open List renaming all_eq_true → aiM, map_cons → ajb, mem_append → ajt, mem_cons → ai0, mem_cons_of_mem → aiV, mem_cons_self → aiQ, mem_filter → aja, mem_map → ai_, mem_range → ai8, mem_singleton → ajo, range → ajw
open Nat renaming blt_eq → ai3, lt_of_lt_of_le → ai1
open Option renaming map_eq_some_iff → aiO
open Option.some renaming injEq → aiP
namespace Go.RX
theorem vU(done i j:Nat):(done|||(1 <<< i)).testBit j=(done.testBit j||decide (i=j)):=by
 rw [Nat.testBit_or,Nat.one_shiftLeft,Nat.testBit_two_pow]
theorem oF{α:Type}{W:List α}{x:α}{W1:List α}{y:α}{W2:List α}(h:W++[x]=W1++y::W2):(W2=[]∧y=x∧W1=W)∨∃K1,W2=K1++[x]∧W=W1++y::K1:=by
 rcases List.eq_nil_or_concat W2 with rfl | ⟨K1,z,rfl⟩
 ·left;have:=List.append_inj' h rfl;exact⟨rfl,by simpa using this.2.symm,this.1.symm⟩
 ·right;have h':W++[x]=(W1++y::K1)++[z]:=by rw [h];simp [List.concat_eq_append]
  have:=List.append_inj' h' rfl;have hz:x=z:=by simpa using this.2
  subst hz;exact⟨K1,by simp [List.concat_eq_append],this.1⟩
theorem Es{all:Array Oper}{done i:Nat}(h:lK all done i=true): ∃o,all[i]? =some o∧∀e∈o.after,ajK .any e=true→done.testBit e.on=true:=by
 unfold lK at h;split at h
 ·rename_i o ho;refine⟨o,ho,fun e he hb=>?_⟩;have:=aiM.1 h e (by simpa using he);simpa [hb] using this
 ·cases h
theorem K2{all:Array Oper}{done i:Nat}{o:Oper}(ho:all[i]? =some o)(h: ∀e∈o.after,ajK .any e=true→done.testBit e.on=true):lK all done i=true:=by
 unfold lK;simp only [ho];refine aiM.2 fun e he=>?_
 cases hb:ajK .any e with
 | false=>rfl
 | true=>rw [h e (by simpa using he) hb];rfl
section
variable {P:Program} {C:Ctx} {ao:Value→List HP→Prop} {Fs:List HP} {w0:World} {all:Array Oper} {pm:List Nat}
variable {ro:Option Nat} {nt:NT} {a0:Act} {aQ:Array Bool} {a:Act} {w:World} {rest:List Nat} {done:Nat} {log:List (Nat×List Nat)} {st:St} {ρ:Env} {W:List Wr}
theorem DI.quiet(hT:bD P C.T=true)(h:DI P Fs w0 all ro nt a0 aQ a w rest done log st ρ W){i:Nat}{o:Oper}(UP:i∈rest)(cP:lK all done i=true)(hi:all[i]? =some o)(wT:py st o.dst=true)
  {g:Option BE} {res:hU} (hg:qz all (restrict st.fr (slotsOf all o)) st.known o=some g) (hgs:gsc st.aV g=true)
  (hr:DJ C g {st with fr:=restrict st.fr (slotsOf all o)} o=some res) (he:res.hZ= .none) (bW:mR ρ g=true→∀b∈res.vcs,b.prop ρ):
  DI P Fs w0 all ro nt a0 aQ a w (rest.filter fun j=>j != i) (done|||(1 <<< i)) ((i,res.rd)::log)
   (({st with known:=BX g res.vcs st.known}:St).put o.dst (Kj g res.val)) ρ
   (W++[(i,o.dst,if mR ρ g then res.val.val ρ else undef)]):=by
 have KY:res.sc st.aV=true:=by
  rcases yQ hr with⟨_,rfl⟩ | hr
  ·rfl
  ·exact(lp hr).2
 have TC:=KY;simp only [hU.sc,ai,he,zX.grow]at TC;obtain⟨⟨kx,vO⟩,_⟩:=TC;have TD:i ∉ W.map (·.1):=((h.rest i).1 UP).2;have ng:jM aQ i=false:=by
  cases hl:jM aQ i with
  | false=>rfl
  | true=>exact absurd (h.sub i hl) TD
 have hv:(if mR ρ g=true then res.val.val ρ else undef)=(Kj g res.val).val ρ:=by
  cases g with
  | none=>rfl
  | some c=>rfl
 have iT:(Kj g res.val).sc st.aV=true:=by
  cases g with
  | none=>exact kx
  | some c=>simp only [Kj,SV.sc,ai];exact⟨hgs,kx⟩
 have xf:HW Fs w0 ({st with known:=BX g res.vcs st.known}:St) ρ w:=by
  cases g with
  | some c=>exact h.hw
  | none=>
   refine⟨h.hw.lens,h.hw.kI,h.hw.fU,?_,fun b hb=>?_,h.hw.own,h.hw.same,h.hw.lC⟩
   ·show(more res.vcs st.known).all (BE.sc st.aV)=true;unfold more;rw [List.all_append,h.hw.nh,Bool.and_true];exact aiM.2 fun x hx=>aiM.1 vO x (aja.1 hx).1
   ·exact(ajt.1 hb).elim (fun hm=>bW rfl b (aja.1 hm).1) (h.hw.kn b)
 have e:=dL ({st with known:=BX g res.vcs st.known}:St) o.dst (Kj g res.val);refine⟨xf.put iT,by rw [e.2.2.2.1];exact h.tx,?_,?_,?_,?_,?_,?_,h.QY,h.WM,?_,?_⟩
 ·rw [List.filter_append,List.filter_cons_of_neg (by simp [ng]),List.filter_nil,List.append_nil];exact h.act
 ·rw [iY,tz];refine HA.put h.ha (fun x hx=>?_) hv _ rfl;rw [←h.tx];exact tq wT x hx
 ·rw [List.map_append,List.nodup_append];exact⟨h.nd,by simp,fun x hx y hy=>by
   simp only [ajb,List.map_nil,ajo]at hy;subst hy;intro X7;subst X7;exact TD hx⟩
 ·intro j;rw [vU,Bool.or_eq_true,h.done,List.map_append,ajt];simp only [decide_eq_true_eq,ajb,List.map_nil,ajo];exact⟨fun hj=>hj.imp id Eq.symm,fun hj=>hj.imp id Eq.symm⟩
 ·intro j;rw [aja,h.rest,List.map_append,ajt];simp only [bne_iff_ne,ne_eq,ajb,List.map_nil,ajo,not_or,and_assoc]
 ·intro j hj;rw [List.map_append];exact List.mem_append_left _ (h.sub j hj)
 ·intro W1 x W2 hW;rcases oF hW with⟨rfl,rfl,rfl⟩ | ⟨K1,rfl,Q1⟩
  ·obtain⟨o',I9,Ap⟩:=Es cP;rw [hi]at I9;cases I9;exact⟨o,hi,rfl,fun e he hb=>(h.done _).1 (Ap e he hb)⟩
  ·exact h.QZ W1 x K1 Q1
 ·intro W1 x W2 hW Hk;rcases oF hW with⟨rfl,rfl,rfl⟩ | ⟨K1,rfl,Q1⟩
  ·refine⟨o,res.rd,st.hp,ρ,hi,aiQ,?_,fun j _ ck Mp=>⟨ck,by rw [e.1];exact Mp,rfl⟩⟩;exact Hj hT hi hg hr he h.hw.kn h.hw.lens bW (h.ha)
  ·obtain⟨o',rd,hp,bF,h1,h2,h3,h4⟩:=h.Q0 W1 x K1 Q1 Hk;exact⟨o',rd,hp,bF,h1,aiV _ h2,h3,by rw [e.1];exact h4⟩
theorem xl{aQ:Array Bool}{i j:Nat}(hi:i<aQ.size):jM (aQ.setIfInBounds i true) j=(decide (i=j)||jM aQ j):=by
 unfold jM;by_cases h:i=j
 ·subst h;simp [Array.getElem?_setIfInBounds_self_of_lt hi]
 ·rw [getD_set_ne false h];simp [h]
theorem DI.pending(h:DI P Fs w0 all ro nt a0 aQ a w rest done log st ρ W)(tC:ko all pm=true)(Bf:xP all pm=true){i:Nat}{o:Oper}(hi:all[i]? =some o)(ng:jM aQ i=false)
  (oE: ∀e∈o.after,ajK .any e=true→jM aQ e.on=true) (TD:i∈W.map (·.1)) (Q:Exit→Act→World→Prop) (K:Act→World→Prop)
  (hK: ∀a',DI P Fs w0 all ro nt a0 (aQ.setIfInBounds i true) a' w rest done log st ρ W→K a' w):wpOpIn (FW ro) 0 P all Q i K a w:=by
 obtain⟨x,hx,rfl⟩:=ai_.1 TD;obtain⟨W1,W2,hW⟩:=List.append_of_mem hx;obtain⟨o',rd,hp,bF,h1,h2,h3,h4⟩:=h.Q0 W1 x W2 hW ng;rw [hi]at h1;cases h1;have gu:=h.nd;rw [hW]at gu;simp only [List.map_append,ajb]at gu;rw [List.nodup_append]at gu;obtain⟨agr,UN,UO⟩:=gu;have X5:x.1 ∉ W1.map (·.1):=fun hc=>UO _ hc _ aiQ rfl
 have abH:x.1 ∉ W2.map (·.1):=(List.nodup_cons.1 UN).1;have yL:x.1<aQ.size:=by rw [h.QY];exact(aiY.1 hi).1
 obtain⟨S,hS⟩:=h.hw.own;have wT:x.2.1=o.dst:=by
  obtain⟨o2,ho2,hd2,_⟩:=h.QZ W1 x W2 hW;rw [hi]at ho2;cases ho2;exact hd2
 refine h3 a w S K Q (fun s hs=>?_) ?_ ?_ ?_ (hK _ ?_)
 ·rw [h.act,hW];refine vT (fun y hy Jc=>h.before tC Bf hi oE hW X5 (.inl hs) y hy Jc) fun y hy Jc=>?_
  rcases ai0.1 hy with rfl | hy
  ·exact ng
  ·exact h.behind tC Bf hi ng hW (.inl hs) y hy Jc
 ·rw [h.act,kC,kC]
 ·rw [h.act,nN,←nN W];exact h.ha.size
 ·intro j hj ck Mp;obtain⟨QR,UQ,yK⟩:=h4 j hj ck Mp;rw [←yK];exact yP S hS rd j hj QR UQ
 ·have uU: ∀j,jM (aQ.setIfInBounds x.1 true) j=(decide (x.1=j)||jM aQ j):=fun j=>xl yL
  refine⟨h.hw,h.tx,?_,h.ha,h.nd,h.done,h.rest,fun j hj=>?_,by simp [h.QY],fun p op Bc hp e he hb=>?_,h.QZ,fun A y B hWy hny=>?_⟩
  ·have f1:W1.filter (fun y=>jM (aQ.setIfInBounds x.1 true) y.1)=W1.filter (fun y=>jM aQ y.1):=List.filter_congr fun y hy=>by
    have:x.1≠y.1:=fun e=>X5 (by rw [e];exact ai_.2 ⟨y,hy,rfl⟩)
    rw [uU];simp [this]
   have f2:W2.filter (fun y=>jM (aQ.setIfInBounds x.1 true) y.1)=W2.filter (fun y=>jM aQ y.1):=List.filter_congr fun y hy=>by
    have:x.1≠y.1:=fun e=>abH (by rw [e];exact ai_.2 ⟨y,hy,rfl⟩)
    rw [uU];simp [this]
   rw [h.act,hW,List.filter_append,List.filter_append,f1,List.filter_cons_of_neg (by simp [ng]),List.filter_cons_of_pos (by rw [uU];simp),f2,iY,iY];have:x::W2.filter (fun y=>jM aQ y.1)=[(x.1,x.2.1,x.2.2)]++W2.filter (fun y=>jM aQ y.1):=rfl;rw [this,iY,tz,Bd,wT];intro y hy s hs Jc;obtain⟨QA,Tk⟩:=aja.1 hy;have:=h.behind tC Bf hi ng hW (.inr (wT▸hs)) y QA Jc;rw [this]at Tk;cases Tk
  ·rw [uU,Bool.or_eq_true]at hj;rcases hj with hj | hj
   ·rw [←of_decide_eq_true hj];exact TD
   ·exact h.sub j hj
  ·rw [uU,Bool.or_eq_true]at hp ⊢;rcases hp with hp | hp
   ·have:=of_decide_eq_true hp;subst this;rw [hi]at Bc;cases Bc;exact .inr (oE e he hb)
   ·exact .inr (h.WM p op Bc hp e he hb)
  ·rw [uU,Bool.or_eq_false_iff]at hny;exact h.Q0 A y B hWy hny.2
end
section
variable {P:Program} {C:Ctx} {ao:Value→List HP→Prop} {Fs:List HP} {w0:World} {all:Array Oper} {pm:List Nat}
variable {ro:Option Nat} {nt:NT} {a0:Act} {aQ:Array Bool} {a:Act} {w:World} {rest:List Nat} {done:Nat} {log:List (Nat×List Nat)} {st:St} {ρ:Env} {W:List Wr}
theorem Oper.Ny{F:Fence}{n:Nat}{o:Oper}{K:Act→World→Prop}{Q:Exit→Act→World→Prop}(hh:o.wpIn F n P a w K Q):
  o.wpIn F n P a w (fun a' w'=>K a' w'∧(a'.defers≠a.defers∨∃u,a'=a.put o.dst u)) Q:=by
 unfold Oper.wpIn at*;refine⟨hh.1,?_⟩;have hh:=hh.2;generalize (o.semAt F.round a.eval).run P w=r at*;cases r with
 | ok x w'=>
  cases x<;>simp only [Oper.uponIn]at hh ⊢ <;>
   first
    | exact⟨hh,.inr ⟨_,rfl⟩⟩
    | exact⟨hh,.inl (by rw [put_defers];simp)⟩
    | exact⟨hh.1,CallsIn.mono hh.2 (fun e XQ he=>by cases e<;>first | exact⟨he,.inr ⟨_,rfl⟩⟩ | exact he)⟩
    | exact⟨hh.1,RowsIn.mono hh.2 (fun _ _ he=>⟨he,.inr ⟨_,rfl⟩⟩)⟩
    | exact⟨hh.1,RoundIn.mono hh.2 (fun e XQ he=>by cases e<;>first | exact⟨he,.inr ⟨_,rfl⟩⟩ | exact he)⟩
    | exact hh
 | halt x w'=>cases x<;>simp only [Oper.uponIn]at hh ⊢ <;>exact hh
theorem Oper.Hl{F:Fence}{n:Nat}{o:Oper}{K K':Act→World→Prop}{Q Q':Exit→Act→World→Prop}(h: ∀a w,K a w→K' a w)(hq: ∀c a w,¬Q (.panic c) a w)(ho: ¬LetsOut Q)
  (hh:o.wpIn F n P a w K Q):o.wpIn F n P a w K' Q':=by
 unfold Oper.wpIn at*;refine⟨hh.1,?_⟩;have hh:=hh.2;generalize (o.semAt F.round a.eval).run P w=r at*;cases r with
 | ok x w'=>
  cases x<;>simp only [Oper.uponIn]at hh ⊢ <;>
   first
    | exact h _ _ hh
    | exact⟨hh.1,CallsIn.mono hh.2 (fun e XQ he=>by cases e<;>first | exact h _ _ he | exact absurd he (hq _ _ _) | exact absurd he ho)⟩
    | exact⟨hh.1,RowsIn.mono hh.2 (fun _ _ he=>h _ _ he)⟩
    | exact⟨hh.1,RoundIn.mono hh.2 (fun e XQ he=>by cases e<;>first | exact h _ _ he | exact absurd he (hq _ _ _) | exact absurd he ho)⟩
 | halt x w'=>cases x<;>simp only [Oper.uponIn]at hh ⊢ <;>first | exact absurd hh (hq _ _ _) | exact hh
theorem K3{c:cz}{hp lz:List Ck}{rd:List Nat}{ρ bF:Env}(h:kept c hp lz rd=true)(eu:fR c ρ bF){j:Nat}(hj:j∈rd){a:Ck}(ha:hp[j]? =some a):
  ∃b,lz[j]? =some b∧b.den bF=a.den ρ:=by
 have h1:=aiM.1 h j hj;simp only [ha]at h1;split at h1
 ·rename_i x b hx hb;cases hx;split at h1
  ·rename_i l hl;refine⟨b,hb,(rD eu.va hl fun y hy=>rB eu (aiM.1 h1 y hy)).symm⟩
  ·cases h1
 ·rename_i hx;cases hx
 ·cases h1
theorem DI.effect{n:Nat}(Mr:se P C ao Fs w0 n){k:List KI}(fI:Cu ρ k ro)(h:DI P Fs w0 all ro nt a0 aQ a w rest done log st ρ W)(tC:ko all pm=true)(Bf:xP all pm=true){e:Nat}{o:Oper}(he:all[e]? =some o)(her:e∈rest)
  (ng:jM aQ e=false) (oE: ∀x∈o.after,ajK .any x=true→jM aQ x.on=true) (wT:py st o.dst=true) {L:Nat→LC}
  (hv:VC P ao (run C n (.ops all [o]:: .MP all pm e rest done log st.fn st.nt st.fr st.hp st.aV::k) {st with fr:=restrict st.fr (slotsOf all o)}) ρ L) (Q:Exit→Act→World→Prop) (K:Act→World→Prop)
  (hK: ∀a' w',(∃m,m<n∧∃rest done log st bF L' W,VC P ao (run C m (.rN all pm rest done log::k) st) bF L'∧Env.Le ρ bF∧(∀j,j<nl k→L' j=L j)∧DI P Fs w0 all ro nt a0 (aQ.setIfInBounds e true) a' w' rest done log st bF W)→K a' w'):
  wpOpIn (FW ro) 0 P all Q e K a w:=by
 have heW:e ∉ W.map (·.1):=((h.rest e).1 her).2;have hel:e<aQ.size:=by rw [h.QY];exact(aiY.1 he).1
 have Q2:a.defers=(mn a0 W).defers:=by rw [h.act,kC,kC]
 have eS:nt.n≤a.tmps.size:=by rw [h.act,nN,←nN W];exact h.ha.size
 have ha:HA (restrict st.fr (slotsOf all o)) nt ρ a:=by
  refine vS h.ha (fun s hs=>?_) Q2 eS;rw [h.act];have:=vT (a0:=a0) (aQ:=aQ) (W1:=W) (tail:=[]) (s:=s) (fun y hy Jc=>h.before tC Bf he oE (tail:=[]) (by simp) heW (.inl hs) y hy Jc) (fun y hy=>by cases hy)
  rwa [List.append_nil]at this
 have hw:HW Fs w0 {st with fr:=restrict st.fr (slotsOf all o)} ρ w:=
  ⟨h.hw.lens,aiM.2 fun x hx=>aiM.1 h.hw.kI x (aja.1 hx).1,h.hw.fU,h.hw.nh,h.hw.kn,h.hw.own,h.hw.same,h.hw.lC⟩
 have TE:=Mr ro all [o] _ _ ρ L a w hv hw (by rw [show({st with fr:=restrict st.fr (slotsOf all o)}:St).nt=st.nt from rfl,h.tx];exact ha) (fI.push rfl);have fin: ∀a' w',QK P C ao Fs w0 n (.MP all pm e rest done log st.fn st.nt st.fr st.hp st.aV::k) ρ L .normal a' w'→(a'.defers≠a.defers∨∃u,a'=a.put o.dst u)→K a' w':=by
  intro a' w' hq n7;obtain⟨k',hk,m,hm,cY,bF,L',g1,g2,g3,g4,g5⟩:=hq;cases hk;cases m with
  | zero=>exact g5.elim
  | succ m=>
   simp only [run,he]at g5;split at g5
   case isFalse=>exact g5.elim
   rename_i Q3;rw [ai,beq_iff_eq]at Q3;obtain⟨Q3,Aq⟩:=Q3;obtain⟨u,rfl⟩: ∃u,a'=a.put o.dst u:=by
    rcases n7 with n7 | n7
    ·rw [g4.defers,Q2,h.ha.defers,Aq,h.tx]at n7;exact absurd (tj (Env.Le.dK h.hw.lens g1) (by rw [←h.tx];exact h.hw.lC)).symm n7
    ·exact n7
   split at g5
   case h_2=>exact g5.elim
   rename_i v rb;have eu:=Env.Le.dK h.hw.lens g1;have dz:=fq.le h.hw.lens g3.lens g1;have AR:v.sc cY.aV=true:=by
    cases hd:o.dst with
    | none=>rw [hd]at rb;simp only [aiP]at rb;subst rb;rfl
    | some d=>rw [hd]at rb;exact Cn g3.kI rb
   have Ja:HW Fs w0 (fv cY st.fn st.nt st.fr) bF w':=⟨g3.lens,cr dz h.hw.kI,g3.fU,g3.nh,g3.kn,g3.own,g3.same,cV dz h.hw.lC⟩;have WB:=dL (fv cY st.fn st.nt st.fr) o.dst v;have uU: ∀j,jM (aQ.setIfInBounds e true) j=(decide (e=j)||jM aQ j):=fun j=>xl hel
   refine hK _ _ ⟨m,by omega,_,_,_,_,bF,L',W++[(e,o.dst,u)],g5,g1,g2,?_⟩;refine⟨Ja.put AR,by rw [WB.2.2.2.1];exact h.tx,?_,?_,?_,?_,?_,?_,by simp [h.QY],?_,?_,?_⟩
   ·have f1:W.filter (fun y=>jM (aQ.setIfInBounds e true) y.1)=W.filter (fun y=>jM aQ y.1):=List.filter_congr fun y hy=>by
     have:e≠y.1:=fun ee=>heW (by rw [ee];exact ai_.2 ⟨y,hy,rfl⟩)
     rw [uU];simp [this]
    rw [List.filter_append,f1,List.filter_cons_of_pos (by rw [uU];simp),List.filter_nil,iY,tz,←h.act]
   ·rw [iY,tz];have ha3:=h.ha.more h.hw.kI (by rw [←h.tx];exact h.hw.lC) eu;cases hd:o.dst with
    | none=>exact ha3
    | some d=>
     have hdl:d<nt.n:=by rw [←h.tx];exact tq wT d hd
     refine HA.put ha3 (fun x hx=>by cases hx;exact hdl) ?_ _ rfl;rw [hd]at rb;have:=g4.aO d v rb;rw [hd,yY a d u (ai1 hdl eS)]at this;exact this
   ·rw [List.map_append,List.nodup_append];exact⟨h.nd,by simp,fun x hx y hy=>by
     simp only [ajb,List.map_nil,ajo]at hy;subst hy;intro X7;subst X7;exact heW hx⟩
   ·intro j;rw [vU,Bool.or_eq_true,h.done,List.map_append,ajt];simp only [decide_eq_true_eq,ajb,List.map_nil,ajo];exact⟨fun hj=>hj.imp id Eq.symm,fun hj=>hj.imp id Eq.symm⟩
   ·intro j;rw [aja,h.rest,List.map_append,ajt];simp only [bne_iff_ne,ne_eq,ajb,List.map_nil,ajo,not_or,and_assoc]
   ·intro j hj;rw [List.map_append,ajt];rw [uU,Bool.or_eq_true]at hj;rcases hj with hj | hj
    ·right;rw [←of_decide_eq_true hj];simp
    ·exact .inl (h.sub j hj)
   ·intro p op Bc hp x hx hb;rw [uU,Bool.or_eq_true]at hp ⊢;rcases hp with hp | hp
    ·have:=of_decide_eq_true hp;subst this;rw [he]at Bc;cases Bc;exact .inr (oE x hx hb)
    ·exact .inr (h.WM p op Bc hp x hx hb)
   ·intro W1 x W2 hW;rcases oF hW with⟨rfl,rfl,rfl⟩ | ⟨K1,rfl,Q1⟩
    ·exact⟨o,he,rfl,fun x hx hb=>h.sub _ (oE x hx hb)⟩
    ·exact h.QZ W1 x K1 Q1
   ·intro W1 x W2 hW Hk;rcases oF hW with⟨rfl,rfl,rfl⟩ | ⟨K1,rfl,Q1⟩
    ·rw [uU]at Hk;simp at Hk
    ·rw [uU,Bool.or_eq_false_iff]at Hk;obtain⟨o',rd,hp,qL,h1,h2,h3,h4⟩:=h.Q0 W1 x K1 Q1 Hk.2;refine⟨o',rd,hp,qL,h1,h2,h3,fun j hj ck Mp=>?_⟩;obtain⟨QR,UQ,yK⟩:=h4 j hj ck Mp;have hx:=aiM.1 Q3 _ h2;simp only [Bool.or_eq_true]at hx;rcases hx with hx | hx
     ·have hxl:x.1<all.size:=(aiY.1 h1).1;have:=tB Bf (fun q=>jM aQ q=true) h.WM he oE hxl hx;rw [Hk.2]at this;cases this
     ·obtain⟨b,hb,hbd⟩:=K3 hx eu hj UQ;exact⟨b,by rw [WB.1];exact hb,by rw [hbd,yK]⟩
 unfold wpOpIn;simp only [he];unfold wpListIn at TE;split
 ·rename_i lT;rw [if_pos lT]at TE;refine Oper.Hl (fun a' w' hh=>fin a' w' hh.1 hh.2) (fun c a' w' hq=>?_) (fun hq=>?_) (Oper.Ny TE)
  ·obtain⟨k',hk,_⟩:=hq;cases hk
  ·obtain⟨_,_,k',hk,_⟩:=hq;cases hk
 ·rename_i lT;rw [if_neg lT]at TE;exact⟨TE.1,fin _ _ TE.2 (.inr ⟨undef,rfl⟩)⟩
theorem DI.descend(hT:bD P C.T=true){k:List KI}{L:Nat→LC}: ∀{m:Nat} {rest:List Nat} {done:Nat} {log:List (Nat×List Nat)} {st:St} {W:List Wr},
  VC P ao (run C m (.rN all pm rest done log::k) st) ρ L→DI P Fs w0 all ro nt a0 aQ a w rest done log st ρ W→
  ∃m',m'≤m∧∃rest done log st W,VC P ao (run C m' (.rN all pm rest done log::k) st) ρ L∧DI P Fs w0 all ro nt a0 aQ a w rest done log st ρ W∧
   (rest=[]∨(rest.find? fun i=>BW all i&&lK all done i)=none)
 | 0,rest,done,log,st,W,hv,_=>hv.elim
 | m+1,[],done,log,st,W,hv,h=>⟨m+1,Nat.le_refl _,[],done,log,st,W,hv,h,.inl rfl⟩
 | m+1,x::r,done,log,st,W,hv,h=>by
  cases hf:(x::r).find? fun i=>BW all i&&lK all done i with
  | none=>exact⟨m+1,Nat.le_refl _,x::r,done,log,st,W,hv,h,.inr hf⟩
  | some i=>
   have He:=List.mem_of_find?_eq_some hf;have ia:=List.find?_some hf;simp only [ai]at ia;simp only [run,hf]at hv;split at hv
   case h_2=>exact hv.elim
   rename_i o ho;split at hv
   case isFalse=>exact hv.elim
   rename_i wT;split at hv
   ·exact hv.elim
   ·rename_i g hg;split at hv
    case isFalse=>exact hv.elim
    rename_i hgs;split at hv
    case h_2=>exact hv.elim
    rename_i res Em;split at hv
    case h_2=>exact hv.elim
    rename_i QX;obtain⟨bW,hv⟩:=g_ h.hw.kn hv;obtain⟨m',WN,q⟩:=DI.descend hT hv (h.quiet hT He ia.2 ho wT hg hgs Em QX bW);exact⟨m',by omega,q⟩
def TF(all:Array Oper)(aQ:Array Bool):Nat:=(ajw all.size).countP fun i=> !jM aQ i
theorem Q4(hl:aQ.size=all.size){i:Nat}(hi:i<all.size)(hn:jM aQ i=false):TF all (aQ.setIfInBounds i true)+1≤TF all aQ:=by
 unfold TF;have key: ∀(l:List Nat),l.Nodup→i∈l→l.countP (fun j=> !jM (aQ.setIfInBounds i true) j)+1≤l.countP (fun j=> !jM aQ j):=by
  intro l
  induction l with
  | nil=>intro _ h;cases h
  | cons x r ih=>
   intro gu hm;rw [List.nodup_cons]at gu;rw [List.countP_cons,List.countP_cons,xl (by omega)];by_cases hx:i=x
   ·subst hx;have:r.countP (fun j=> !jM (aQ.setIfInBounds i true) j)=r.countP (fun j=> !jM aQ j):=List.countP_congr fun j hj=>by
     have:i≠j:=fun e=>gu.1 (e▸hj)
     rw [xl (by omega)];simp [this]
    rw [this];simp [hn]
   ·have WN:i∈r:=(ai0.1 hm).resolve_left hx;have:=ih gu.2 WN;simp only [hx,decide_false,Bool.false_or];omega
 exact key _ List.nodup_range (ai8.2 hi)
theorem Nz(h:TF all aQ=0): ∀i,i<all.size→jM aQ i=true:=by
 intro i hi;unfold TF at h;rw [List.countP_eq_zero]at h;have:=h i (ai8.2 hi);simpa using this
theorem DI.K6(h:DI P Fs w0 all ro nt a0 aQ a w rest done log st ρ W)(Bf:xP all pm=true)(hr:Region.ready .any all aQ=[]): ∀i,i<all.size→jM aQ i=true:=by
 intro i
 induction i using Nat.strongRecOn with
 | _ i ih=>
  intro hi;cases hl:jM aQ i with
  | true=>rfl
  | false=>
   have hoi:all[i]? =some all[i]:=Array.getElem?_eq_getElem hi;have:i∈Region.ready .any all aQ:=by
    rw [mem_ready];refine⟨?_,_,hoi,fun e he hb=>?_⟩
    ·have yL:i<aQ.size:=by rw [h.QY];exact hi
     unfold jM at hl;rw [ai7,Array.getElem?_eq_getElem yL]at hl ⊢;exact hl
    ·have:=(uS Bf hoi).1 e he hb;exact ih e.on this (by omega)
   rw [hr]at this;cases this
theorem Jd{aQ:Array Bool}{a:Act}{w:World}{m:Nat}{n:Nat}{rest:List Nat}{done:Nat}{log:List (Nat×List Nat)}{st:St}{ρ:Env}{W:List Wr}{k:List KI}{L:Nat→LC}{I4:Env}{Lb:Nat→LC}
  (uz: ∀i,i<all.size→jM aQ i=true) (hm:m≤n) (hv:VC P ao (run C m (.rN all pm rest done log::k) st) ρ L) (hle:Env.Le I4 ρ) (hL: ∀j,j<nl k→L j=Lb j)
  (h:DI P Fs w0 all ro nt a0 aQ a w rest done log st ρ W):QK P C ao Fs w0 n k I4 Lb .normal a w:=by
 have WO:rest=[]:=by
  cases hr:rest with
  | nil=>rfl
  | cons x r=>
   have:=(h.rest x).1 (by rw [hr];exact aiQ);exact absurd (h.sub x (uz x this.1)) this.2
 subst WO;cases m with
 | zero=>exact hv.elim
 | succ m=>
  simp only [run]at hv;have hW:W.filter (fun x=>jM aQ x.1)=W:=by
   rw [List.filter_eq_self];intro x hx;obtain⟨A,B,hAB⟩:=List.append_of_mem hx;obtain⟨o,ho,_⟩:=h.QZ A x B hAB;exact uz x.1 (aiY.1 ho).1
  have X8:=h.act;rw [hW]at X8;refine⟨k,rfl,m,by omega,st,ρ,L,hle,hL,h.hw,?_,hv⟩;rw [X8,h.tx];exact h.ha
theorem Bg{ρ:Env}{L:Nat→LC}: ∀{l:List F},VC P ao (MO l) ρ L→∀x∈l,VC P ao x ρ L
 | [],h,_,_=>h.elim
 | [x],h,y,hy=>by
  rw [ajo]at hy;exact hy▸h
 | x::y::r,h,z,hz=>by
  rcases ai0.1 hz with rfl | hz
  ·exact h.1
  ·exact Bg h.2 z hz
theorem NA(hT:bD P C.T=true){n:Nat}(Mr: ∀m,m<n→se P C ao Fs w0 m)(tC:ko all pm=true)(Bf:xP all pm=true){k:List KI}{I4:Env}{Lb:Nat→LC}(fI:Cu I4 k ro):
  ∀(fuel:Nat) (aQ:Array Bool) (a:Act) (w:World),TF all aQ≤fuel→
   (∃m,m≤n∧∃rest done log st ρ L W,VC P ao (run C m (.rN all pm rest done log::k) st) ρ L∧Env.Le I4 ρ∧(∀j,j<nl k→L j=Lb j)∧DI P Fs w0 all ro nt a0 aQ a w rest done log st ρ W)→
   wpAnyIn (FW ro) 0 P .any all (QK P C ao Fs w0 n k I4 Lb) fuel aQ a w:=by
 intro fuel
 induction fuel with
 | zero=>
  intro aQ a w hf ⟨m,hm,rest,done,log,st,ρ,L,W,hv,hle,hL,h⟩;have uz:=Nz (Nat.le_zero.1 hf);refine⟨?_,?_⟩
  ·cases hr:Region.ready .any all aQ with
   | nil=>rfl
   | cons i r=>
    have:i∈Region.ready .any all aQ:=by rw [hr];exact aiQ
    rw [mem_ready]at this;obtain⟨h0,o,ho,_⟩:=this;have hi:i<all.size:=(aiY.1 ho).1;have hl:=uz i hi;unfold jM at hl;have yL:i<aQ.size:=by rw [h.QY];exact hi
    rw [ai7,Array.getElem?_eq_getElem yL]at hl h0;simp at hl h0;rw [hl]at h0;cases h0
  ·exact Jd uz hm hv hle hL h
 | succ fuel ih=>
  intro aQ a w hf ⟨m,hm,rest,done,log,st,ρ,L,W,hv,hle,hL,h⟩;refine⟨fun hr=>Jd (h.K6 Bf hr) hm hv hle hL h,fun i hi=>?_⟩;rw [mem_ready]at hi;obtain⟨h0,o,ho,Ap⟩:=hi;have yL:i<all.size:=(aiY.1 ho).1;have ng:jM aQ i=false:=by
   have:i<aQ.size:=by rw [h.QY];exact yL
   unfold jM;rw [ai7,Array.getElem?_eq_getElem this]at h0 ⊢;exact h0
  have X9:TF all (aQ.setIfInBounds i true)≤fuel:=by
   have:=Q4 h.QY yL ng;omega
  obtain⟨m',WN,NB,NC,abL,cY,W',rb,h',Q5⟩:=DI.descend hT hv h;by_cases TD:i∈W'.map (·.1)
  ·exact h'.pending tC Bf ho ng Ap TD _ _ fun a' hD=>ih _ _ _ X9 ⟨m',by omega,NB,NC,abL,cY,ρ,L,W',rb,hle,hL,hD⟩
  ·have UP:i∈NB:=(h'.rest i).2 ⟨yL,TD⟩;have cP:lK all NC i=true:=K2 ho fun e he hb=>(h'.done _).2 (h'.sub _ (Ap e he hb))
   rcases Q5 with rfl | Q5
   ·cases UP
   ·cases m' with
    | zero=>exact rb.elim
    | succ m'=>
     cases WO:NB with
     | nil=>rw [WO]at UP;cases UP
     | cons x r=>
      rw [WO]at rb Q5;simp only [run,Q5]at rb;have hiL:i∈(x::r).filter (lK all NC):=aja.2 ⟨WO▸UP,cP⟩;have rb:=Bg rb _ (ai_.2 ⟨i,hiL,rfl⟩);simp only [ho]at rb;split at rb
      case isFalse=>exact rb.elim
      rename_i wT;rw [←WO]at rb;refine DI.effect (Mr m' (by omega)) (fI.le hle) h' tC Bf ho UP ng Ap wT rb _ _ fun a' w' hq=>ih _ _ _ X9 ?_
      obtain⟨m2,Xz,X_,Ya,log2,Ej,Jb,L2,W2,q1,q2,q3,q4⟩:=hq;exact⟨m2,by omega,X_,Ya,log2,Ej,Jb,L2,W2,q1,hle.trans q2,fun j hj=>(q3 j hj).trans (hL j hj),q4⟩
theorem HW.drew(h:HW Fs w0 st ρ w)(d:Nat):HW Fs w0 st ρ {w with drawn:=d}:=by
 refine⟨h.lens,h.kI,h.fU,h.nh,h.kn,?_,h.same.trans ⟨rfl,rfl,rfl,Nat.le_refl _⟩,h.lC⟩;obtain⟨S,hS⟩:=h.own;exact⟨S,hS.Un (Nat.le_refl _) fun _ _=>rfl⟩
theorem Et(hT:bD P C.T=true)(hm:P.follows .mixedOrders=true){n:Nat}(Mr: ∀m,m<n→se P C ao Fs w0 m):Hm P C ao Fs w0 n:=by
 intro ro id all pm k st ρ L a w hv tC Bf hw ha fI;refine wpIn_region_any hm (NA (ro:=ro) (nt:=st.nt) (a0:=a) hT Mr tC Bf fI _ _ _ _ ?_ ⟨n,Nat.le_refl _,_,_,_,_,ρ,L,[],hv,Env.Le.refl _,fun _ _=>rfl,?_⟩)
 ·unfold TF;exact Nat.le_trans List.countP_le_length (by simp)
 ·have Dj: ∀i,jM (Array.replicate all.size false) i=false:=by
   intro i;unfold jM;rw [ai7];by_cases hi:i<all.size
   ·simp [hi]
   ·rw [Array.getElem?_eq_none (by simpa using hi)];rfl
  refine⟨hw.drew _,rfl,rfl,ha,List.nodup_nil,fun i=>by simp,fun i=>by simp,fun i hi=>?_,by simp,fun p o _ hp=>?_,fun W1 x W2 hW=>?_,fun W1 x W2 hW=>?_⟩
  ·rw [Dj]at hi;cases hi
  ·rw [Dj]at hp;cases hp
  ·simp at hW
  ·simp at hW
end
section
variable {P:Program} {C:Ctx} {ao:Value→List HP→Prop} {Fs:List HP} {w0:World}
theorem Bh(hT:bD P C.T=true){n N:Nat}(hnN:n<N)(vQ: ∀m,m<N→pW P C ao Fs w0 m){ro:Option Nat}{c:Code}{fd:Func}{f:Nat}(hf:P.funcs[f]? =some fd)(hb:fd.body=some c){k:List KI}{st:St}{ρ I4:Env}{L Lb:Nat→LC}{w:World}
  {az:List SV} {l r fn:Nat} {nt:NT} {fr:List (Nat×SV)} {ps:Array Tmp} {x y:Code} {a':Act}
  (hv:VC P ao (run C n (.code c:: .rf l r fn nt fr ps x y fd::k) (fv st f ⟨fd.ntmps,[]⟩ (dX 0 az))) ρ L) (iT:SV.o6 st.aV az=true) (hw:HW Fs w0 st ρ w)
  (fI:Cu ρ (.rf l r fn nt fr ps x y fd::k) none) (TG:Cu ρ k ro) (Tj:kZ st.aV fr=true) (Mq:nt.ds.all (MK.sc st.aV)=true) (ha:HA fr nt ρ a') (hle:Env.Le I4 ρ) (hL: ∀j,j<nl k→L j=Lb j) (hl:l<st.aV.b):
  CallsIn (FW none) 0 P f (SV.bH ρ az).toArray w (rangePost (FW ro) 0 P (ρ.bv.getD l 0) (QK P C ao Fs w0 N k I4 Lb) a'):=by
 refine callsIn_of_wp_marks hf hb trivial ?_ rfl;have XU:HW Fs w0 (fv st f ⟨fd.ntmps,[]⟩ (dX 0 az)) ρ w:=⟨hw.lens,xj az 0 iT,hw.fU,hw.nh,hw.kn,hw.own,hw.same,rfl⟩;refine wpIn_mono (vQ n hnN none c _ _ ρ L _ w hv XU (yR az fd.ntmps) fI) ?_;have key: ∀a1 w1,At P C ao Fs w0 n (.rf l r fn nt fr ps x y fd::k) ρ L a1 w1→LeavesInM (FW none) 0 P fd a1.tmps (rangePost (FW ro) 0 P (ρ.bv.getD l 0) (QK P C ao Fs w0 N k I4 Lb) a') a1.defers .returning w1:=by
  intro a1 w1 ⟨m,hm,cY,bF,L',h1,h2,h3,h4,h5⟩;cases m with
  | zero=>exact h5.elim
  | succ m=>
   simp only [run]at h5;split at h5
   case h_2=>exact h5.elim
   rename_i Ej I_;have Ns:Ej.fr=cY.fr∧Ej.nt=cY.nt∧Ej.aV=cY.aV:=by
    unfold mA at I_;rw [aiO]at I_;obtain⟨lz,_,rfl⟩:=I_;exact⟨rfl,rfl,rfl⟩
   split at h5
   case h_2=>exact h5.elim
   rename_i v i r' s j hv Hh;split at h5
   ·exact h5.elim
   ·rename_i Yb;refine mZ I_ h3 h4 fun w2 Ek=>?_
    refine⟨_,oD hT Ek (nt:=cY.nt) (by rw [Ns.1];exact h4) hv,?_⟩;have kO:=lD Ek Hh;have XY:bF.bv.getD l 0=ρ.bv.getD l 0:=((Env.Le.dK hw.lens h1).b l hl).symm;rw [XY]at kO;refine⟨j.code,_,run_endLoop kO (by cases s<;>first | (simp [RS.st];done) | exact absurd rfl Yb),?_⟩;have Ja:=Cr Ek Hh .exhausted j;rw [XY]at Ja;have dz:=fq.le hw.lens Ek.lens h1;have Nv:HW Fs w0 (fv {Ej with hp:=Ej.hp.set i (.kP l r' .exhausted j)} fn nt fr) bF _:=⟨Ja.lens,cr dz Tj,Ja.fU,Ja.nh,Ja.kn,Ja.own,Ja.same,cV dz Mq⟩;have ha4:HA fr nt bF a':=ha.more Tj Mq (Env.Le.dK hw.lens h1);have Uv: ∀q,q<nl k→L' q=Lb q:=fun q hq=>(h2 q hq).trans (hL q hq)
    cases j with
    | none=>
     exact⟨k,rfl,m,by omega,_,bF,L',hle.trans h1,Uv,Nv,ha4,h5⟩
    | ret=>
     exact wpIn_mono (vQ m (by omega) ro .ret k _ bF L' a' _ h5 Nv ha4 (TG.le h1)) fun e a w hq=>hq.mono (by omega) (hle.trans h1) Uv
    | exit id=>
     exact wpIn_mono (vQ m (by omega) ro (.exit id) k _ bF L' a' _ h5 Nv ha4 (TG.le h1)) fun e a w hq=>hq.mono (by omega) (hle.trans h1) Uv
 intro e a1 w1 hq;obtain⟨k',hk,dA⟩:=hq;cases e with
 | normal=>cases hk;exact key a1 w1 dA
 | ret=>cases hk;exact key a1 w1 dA
 | exit id=>cases hk
 | goto l=>cases hk
 | panic l=>cases hk
 | outgrown=>cases hk
theorem K7{ρ:Env}{c:cz}(h:fq ρ c)(l:Nat)(q:Loop):fq (ρ.ext ⟨[l],[],[],[],[],[],[q]⟩) {c with b:=c.b+1,r:=c.r+1}:=
 ⟨by simp [Env.ext,h.b],by simp [Env.ext,h.v],by simp [Env.ext,h.i],by simp [Env.ext,h.a],by simp [Env.ext,h.bo],by simp [Env.ext,h.p],by simp [Env.ext,h.r]⟩
theorem K8{ρ:Env}{c:cz}(h:fq ρ c)(d l:Nat)(q:Loop):fq (ρ.ext ⟨[d,l],[],[],[],[],[],[q]⟩) {c with b:=c.b+2,r:=c.r+1}:=
 ⟨by simp [Env.ext,h.b],by simp [Env.ext,h.v],by simp [Env.ext,h.i],by simp [Env.ext,h.a],by simp [Env.ext,h.bo],by simp [Env.ext,h.p],by simp [Env.ext,h.r]⟩
theorem sf(w:World)(o:Obj):fZ w (w.alloc o):=⟨rfl,rfl,rfl,by simp⟩
theorem Eu(hT:bD P C.T=true)(zV:aR P C.FT){n:Nat}(vQ: ∀m,m<n→pW P C ao Fs w0 m):ND P C ao Fs w0 n:=by
 intro ro g ps x y k st ρ L a w hv hw ha fI;cases n with
 | zero=>exact hv.elim
 | succ n=>
  have hn:n<n+1:=Nat.lt_succ_self n;simp only [run]at hv;split at hv
  case h_2=>exact hv.elim
  rename_i f jK hg;have hev:=eJ ha.eval hg;split at hv
  ·exact hv.elim
  rename_i fd yV;have He:=List.mem_of_find?_eq_some yV;have GY:=List.find?_some yV;simp only [beq_iff_eq]at GY;obtain⟨hf,Eo⟩:=zV _ He;simp only at hf Eo;rw [GY]at hf;split at hv
  ·exact hv.elim
  rename_i c hb;split at hv
  case isFalse=>exact hv.elim
  rename_i Je;have UR: ¬fd.name= "runtime.NumGoroutine" :=by simpa using Eo
  have Em: ∀(l:Nat) (w1:World),(resolve a.eval (rangeCall g l) 0).run P w1= .ok {target:= .fn (.func f) (SV.bH ρ jK).toArray,args:= #[.func (.yield l) #[] #[]]} w1:=by
   intro l w1;simp only [resolve,hev,SV.val,Deferred.ofValue];simp [Act.eval]
  have hinv: ∀(l:Nat) (w1:World),(invoke (.fn (.func f) (SV.bH ρ jK).toArray) #[.func (.yield l) #[] #[]]).run P w1= .ok (.enter f (#[.func (.yield l) #[] #[]]++(SV.bH ρ jK).toArray)) w1:=by
   intro l w1;simp [invoke,callFunc,hf,UR,hb]
  have KM:=fI.ro;split at hv
  ·
   rename_i har;rw [har]at KM;simp only at KM;subst KM;refine wpIn_rangeFunc fun fn _=>?_
   have e1:=run_enterLoop_outer (P:=P) (w:=w) fn a.tmps ps x y;refine⟨_,_,_,_,_,f,_,_,e1,Em _ _,fun _ _=>trivial,hinv _ _,fun h=>(by cases h),?_⟩;simp only [VC]at hv;have vE:=hv w.heap.size (w.heap.size+1) {state:= .ready,pending:=none,fn,tmps:=a.tmps,params:=ps,assign:=x,body:=y,defers:=w.heap.size};generalize hq:({state:= .ready,pending:=none,fn,tmps:=a.tmps,params:=ps,assign:=x,body:=y,defers:=w.heap.size}:Loop)=q at vE e1 ⊢;have hle:=Env.gg ρ ⟨[w.heap.size,w.heap.size+1],[],[],[],[],[],[q]⟩;have eu:=Env.Le.dK hw.lens hle;have hl:=K8 hw.lens w.heap.size (w.heap.size+1) q;have dz:=fq.le hw.lens hl hle;have b1:(ρ.ext ⟨[w.heap.size,w.heap.size+1],[],[],[],[],[],[q]⟩).bv.getD st.aV.b 0=w.heap.size:=by simp [Env.ext,←hw.lens.b]
   have b2:(ρ.ext ⟨[w.heap.size,w.heap.size+1],[],[],[],[],[],[q]⟩).bv.getD (st.aV.b+1) 0=w.heap.size+1:=by simp [Env.ext,←hw.lens.b]
   have b3:(ρ.ext ⟨[w.heap.size,w.heap.size+1],[],[],[],[],[],[q]⟩).lr.getD st.aV.r h_=q:=by simp [Env.ext,←hw.lens.r]
   have K9:({q with state:=RS.ready.st,pending:=Jump.none.code}:Loop)=q:=by subst hq;rfl
   have US:q.params=ps:=by subst hq;rfl
   have hqa:q.assign=x:=by subst hq;rfl
   have Z_:q.body=y:=by subst hq;rfl
   have hqt:q.tmps=a.tmps:=by subst hq;rfl
   clear hq;generalize abQ:ρ.ext ⟨[w.heap.size,w.heap.size+1],[],[],[],[],[],[q]⟩=qL at vE hle eu hl b1 b2 b3;have Yc:bz ((st.hp.map (Ck.den qL)++[xH w.heap.size])++Fs) (w.alloc (.deferred (some []))):=by
    refine bz.add (by rw [←jZ eu hw.fU];exact hw.own) _ (fun k=>k=w.heap.size) (by simp) (fun k hk=>heap_alloc_old w _ hk) ⟨fun _=>Iff.rfl,heap_alloc_new w _⟩ (fun k hk=>by simp;omega)
   have NF:bz (((st.hp.map (Ck.den qL)++[xH w.heap.size])++[sB (w.heap.size+1) q])++Fs) ((w.alloc (.deferred (some []))).alloc (.loop q)):=by
    have eS:(w.alloc (.deferred (some []))).heap.size=w.heap.size+1:=by simp
    refine bz.add Yc _ (fun k=>k=w.heap.size+1) (by simp) (fun k hk=>heap_alloc_old _ _ hk) ⟨fun _=>Iff.rfl,?_⟩ (fun k hk=>by simp;omega);have:=heap_alloc_new (w.alloc (.deferred (some []))) (.loop q)
    rwa [eS]at this
   have xf:HW Fs w0 {st with hp:=st.hp++[.Ki st.aV.b]++[.kP (st.aV.b+1) st.aV.r .ready .none],aV:={st.aV with b:=st.aV.b+2,r:=st.aV.r+1}} qL ((w.alloc (.deferred (some []))).alloc (.loop q)):=by
    refine⟨hl,cr dz hw.kI,?_,eN dz hw.nh,fun b hb=>(BE.gn eu (aiM.1 hw.nh b hb)).1 (hw.kn b hb),?_,(hw.same.trans (sf _ _)).trans (sf _ _),cV dz hw.lC⟩
    ·simp only [List.all_append,ai,List.all_cons,List.all_nil,Ck.sc,ai3];exact⟨⟨iA dz hw.fU,by omega,trivial⟩,⟨by omega,by omega⟩,trivial⟩
    ·simp only [List.map_append,ajb,List.map_nil,Ck.den,b1,b2,b3,K9];exact NF
   have NG:kZ {st.aV with b:=st.aV.b+2,r:=st.aV.r+1} st.fr=true:=cr dz hw.kI;have abR:(MK.one st.aV.b::st.nt.ds).all (MK.sc {st.aV with b:=st.aV.b+2,r:=st.aV.r+1})=true:=by
    rw [List.all_cons,ai,MK.sc,ai3];exact⟨by show st.aV.b<st.aV.b+2;omega,cV dz hw.lC⟩
   have Hi:=ha.more hw.kI hw.lC eu;have Ep:Cu qL (.rf (st.aV.b+1) st.aV.r st.fn ⟨st.nt.n,.one st.aV.b::st.nt.ds⟩ st.fr ps x y fd::k) none:=by
    refine⟨fun l r fn nt fr ps' x' y' XV hm=>?_,rfl⟩;rcases ai0.1 hm with hm | hm
    ·cases hm;refine⟨qL,_,hl,Env.Le.refl _,NG,by simp,by rw [b3,US],by rw [b3,hqa],by rw [b3,Z_],?_⟩;rw [b3,hqt];exact⟨rfl,Hi.size,Hi.aO⟩
    ·exact(fI.le hle).rf l r fn nt fr ps' x' y' XV hm
   have pY:=Bh (Lb:=L) hT hn vQ hf hb (a':={a with defers:=[{target:= .collected w.heap.size,args:= #[]}]++a.defers}) vE
    (by simp only [SV.o6,SV.sc,ai,ai3];exact⟨by omega,SV.eM dz Je⟩) xf Ep (fI.le hle) NG abR
    ⟨by rw [ha.defers,tj eu hw.lC];simp only [marks,List.flatMap_cons,MK.blocks,ajb,b1,List.singleton_append],Hi.size,Hi.aO⟩ hle (fun _ _=>rfl) (by simp)
   rw [b2]at pY;have jN:(SV.bH qL (.Kf (st.aV.b+1)::jK)).toArray= #[.func (.yield (w.heap.size+1)) #[] #[]]++(SV.bH ρ jK).toArray:=by
    simp only [SV.bH,SV.val,b2,(SV.fH eu Je).1];simp
   rw [jN]at pY;exact pY
  ·
   rename_i l0 har;rw [har]at KM;simp only at KM;obtain⟨vR,c0,k1,k2,k3,k4⟩:=KM;rw [(Env.Le.dK k1 k2).b l0 k3]at k4;split at hv
   case h_2=>exact hv.elim
   rename_i rc Hh;obtain⟨i0,r0,s0,j0⟩:=rc;have kO:=lD hw Hh;refine wpIn_rangeFunc fun fn _=>?_
   have e1:=run_enterLoop_inner (P:=P) (w:=w) kO fn a.tmps ps x y;rw [show(FW ro).round=ro from rfl,k4];refine⟨_,_,_,_,_,f,_,_,e1,Em _ _,fun _ _=>trivial,hinv _ _,fun h=>(by cases h),?_⟩;simp only [VC]at hv;have vE:=hv w.heap.size {state:= .ready,pending:=none,fn,tmps:=a.tmps,params:=ps,assign:=x,body:=y,defers:=({ρ.lr.getD r0 h_ with state:=s0.st,pending:=j0.code}:Loop).defers};generalize hq:({state:= .ready,pending:=none,fn,tmps:=a.tmps,params:=ps,assign:=x,body:=y,defers:=({ρ.lr.getD r0 h_ with state:=s0.st,pending:=j0.code}:Loop).defers}:Loop)=q at vE e1 ⊢;have hle:=Env.gg ρ ⟨[w.heap.size],[],[],[],[],[],[q]⟩;have eu:=Env.Le.dK hw.lens hle;have hl:=K7 hw.lens w.heap.size q;have dz:=fq.le hw.lens hl hle;have b2:(ρ.ext ⟨[w.heap.size],[],[],[],[],[],[q]⟩).bv.getD st.aV.b 0=w.heap.size:=by simp [Env.ext,←hw.lens.b]
   have b3:(ρ.ext ⟨[w.heap.size],[],[],[],[],[],[q]⟩).lr.getD st.aV.r h_=q:=by simp [Env.ext,←hw.lens.r]
   have K9:({q with state:=RS.ready.st,pending:=Jump.none.code}:Loop)=q:=by subst hq;rfl
   have US:q.params=ps:=by subst hq;rfl
   have hqa:q.assign=x:=by subst hq;rfl
   have Z_:q.body=y:=by subst hq;rfl
   have hqt:q.tmps=a.tmps:=by subst hq;rfl
   clear hq;generalize abQ:ρ.ext ⟨[w.heap.size],[],[],[],[],[],[q]⟩=qL at vE hle eu hl b2 b3;have NF:bz ((st.hp.map (Ck.den qL)++[sB w.heap.size q])++Fs) (w.alloc (.loop q)):=by
    refine bz.add (by rw [←jZ eu hw.fU];exact hw.own) _ (fun k=>k=w.heap.size) (by simp) (fun k hk=>heap_alloc_old w _ hk) ⟨fun _=>Iff.rfl,heap_alloc_new w _⟩ (fun k hk=>by simp;omega)
   have xf:HW Fs w0 {st with hp:=st.hp++[.kP st.aV.b st.aV.r .ready .none],aV:={st.aV with b:=st.aV.b+1,r:=st.aV.r+1}} qL (w.alloc (.loop q)):=by
    refine⟨hl,cr dz hw.kI,?_,eN dz hw.nh,fun b hb=>(BE.gn eu (aiM.1 hw.nh b hb)).1 (hw.kn b hb),?_,hw.same.trans (sf _ _),cV dz hw.lC⟩
    ·simp only [List.all_append,ai,List.all_cons,List.all_nil,Ck.sc,ai3];exact⟨iA dz hw.fU,⟨by omega,by omega⟩,trivial⟩
    ·simp only [List.map_append,ajb,List.map_nil,Ck.den,b2,b3,K9];exact NF
   have NG:kZ {st.aV with b:=st.aV.b+1,r:=st.aV.r+1} st.fr=true:=cr dz hw.kI;have Hi:=ha.more hw.kI hw.lC eu;have Ep:Cu qL (.rf st.aV.b st.aV.r st.fn st.nt st.fr ps x y fd::k) none:=by
    refine⟨fun l r fn nt fr ps' x' y' XV hm=>?_,rfl⟩;rcases ai0.1 hm with hm | hm
    ·cases hm;refine⟨qL,_,hl,Env.Le.refl _,NG,by simp,by rw [b3,US],by rw [b3,hqa],by rw [b3,Z_],?_⟩;rw [b3,hqt];exact⟨rfl,Hi.size,Hi.aO⟩
    ·exact(fI.le hle).rf l r fn nt fr ps' x' y' XV hm
   have pY:=Bh (Lb:=L) (ro:=ro) hT hn vQ hf hb (a':={a with defers:=[]++a.defers}) vE
    (by simp only [SV.o6,SV.sc,ai,ai3];exact⟨by omega,SV.eM dz Je⟩) xf Ep (fI.le hle) NG (cV dz hw.lC)
    ⟨Hi.defers,Hi.size,Hi.aO⟩ hle (fun _ _=>rfl) (by simp)
   rw [b2]at pY;have jN:(SV.bH qL (.Kf st.aV.b::jK)).toArray= #[.func (.yield w.heap.size) #[] #[]]++(SV.bH ρ jK).toArray:=by
    simp only [SV.bH,SV.val,b2,(SV.fH eu Je).1];simp
   rw [jN]at pY;rw [k4]at pY;exact pY
end
section
variable {P:Program} {C:Ctx} {ao:Value→List HP→Prop} {Fs:List HP} {w0:World}
theorem K_(hT:bD P C.T=true)(zV:aR P C.FT)(Cs:fg P C)(hm:P.follows .mixedOrders=true)(n:Nat):pW P C ao Fs w0 n∧se P C ao Fs w0 n∧Hm P C ao Fs w0 n:=by
 induction n using Nat.strongRecOn with
 | _ n ih=>exact⟨Ev hT (fun m hm=>(ih m hm).1) (fun m hm=>(ih m hm).2.1) (fun m hm=>(ih m hm).2.2) (Eu hT zV fun m hm=>(ih m hm).1),El hT zV Cs (fun m hm=>(ih m hm).1) (fun m hm=>(ih m hm).2.1),Et hT hm (fun m hm=>(ih m hm).2.1)⟩
theorem ax.NH(hT:bD P C.T=true)(zV:aR P C.FT)(hm:P.follows .mixedOrders=true){f:Nat}{fd:Func}(hf:P.funcs[f]? =some fd){args:List SV}{hp:List Ck}{aV:cz}{ρ:Env}(hl:fq ρ aV)
  (h:VC P ao (ig C f args hp aV fd) ρ fun _=>LC.none) (Cs:fg P C:=by exact fg.none rfl):ax P f (SV.bH ρ args) (hp.map (Ck.den ρ)) ao:=by
 intro w Fs cI;unfold ig at h;split at h
 case h_2=>exact h.elim
 rename_i c hb;split at h
 case isFalse=>exact h.elim
 rename_i iT;simp only [ai]at iT;have hw:HW Fs w {fn:=f,fr:=dX 0 args,hp:=hp,aV:=aV,nt:=⟨fd.ntmps,[]⟩} ρ w:=
  ⟨hl,xj args 0 iT.1,iT.2,rfl,fun b hb=>(by cases hb),cI,fZ.refl w,rfl⟩
 have TE:=(K_ (ao:=ao) (Fs:=Fs) (w0:=w) hT zV Cs hm 100000).1 none c _ _ ρ _ _ w h hw (yR args fd.ntmps) ⟨fun l r fn nt fr ps x y fd hm=>(by simp at hm),rfl⟩;have key: ∀a' w',At P C ao Fs w 100000 [.top fd] ρ (fun _=>LC.none) a' w'→LeavesInM (FW none) 0 P fd a'.tmps (fun e w'=> ∃v hs,e= .returned v∧ao v hs∧bz (hs++Fs) w'∧fZ w w') a'.defers .returning w':=by
  intro a' w' ⟨m,hm,cY,bF,L',h1,h2,h3,h4,h5⟩;cases m with
  | zero=>exact h5.elim
  | succ m=>
   simp only [run]at h5;split at h5
   case h_2=>exact h5.elim
   rename_i Ej I_;have Ns:Ej.fr=cY.fr:=by
    unfold mA at I_;rw [aiO]at I_;obtain⟨lz,_,rfl⟩:=I_;rfl
   split at h5
   ·rename_i v hv;refine mZ I_ h3 h4 fun w2 Ek=>?_
    exact⟨_,oD hT Ek (nt:=cY.nt) (by rw [Ns];exact h4) hv,_,_,rfl,h5,Ek.own,Ek.same⟩
   ·exact h5.elim
 have fin: ∀e a' w',QK P C ao Fs w 100000 [.top fd] ρ (fun _=>LC.none) e a' w'→bodyPostM (FW none) 0 P fd (fun e w'=> ∃v hs,e= .returned v∧ao v hs∧bz (hs++Fs) w'∧fZ w w') e a' w':=by
  intro e a' w' hq;obtain⟨k',hk,dA⟩:=hq;cases e with
  | normal=>cases hk;exact key a' w' dA
  | ret=>cases hk;exact key a' w' dA
  | exit id=>cases hk
  | goto l=>cases hk
  | panic l=>cases hk
  | outgrown=>cases hk
 have main:CallsIn (FW none) 0 P f (SV.bH ρ args).toArray w (fun e w'=> ∃v hs,e= .returned v∧ao v hs∧bz (hs++Fs) w'∧fZ w w'):=by
  refine callsIn_of_wp_marks hf hb trivial (wpIn_mono TE ?_) rfl;exact fin
 have main':CallsIn Fence.wide 0 P f (SV.bH ρ args).toArray w (fun e w'=> ∃v hs,e= .returned v∧ao v hs∧bz (hs++Fs) w'∧fZ w w'):=main;exact callsIn_wide.1 main'
end
theorem aR.nil{P:Program}:aR P []:=fun x hx=>(by cases hx)
theorem aR.cons{P:Program}{FT:List (Nat×Func)}{f:Nat}{fd:Func}(h:P.funcs[f]? =some fd)(hn:(fd.name== "runtime.NumGoroutine")=false)(hr:aR P FT):aR P ((f,fd)::FT):=by
 intro x hx;rcases ai0.1 hx with rfl | hx
 ·exact⟨h,hn⟩
 ·exact hr x hx
theorem ax.law{P:Program}{f:Nat}{args:List Value}{pre:List HP}(h:ax P f args pre fun v _=>v= .bool true)(w:World)(cI:bz (pre++[lI w.heap.size w]) w):
  Calls P f args.toArray w fun e w'=>e= .returned (.bool true)∧RowKit.Below w.heap.size w w':=by
 refine(h w _ cI).mono ?_;rintro e w' ⟨v,hs,rfl,rfl,⟨S,hS⟩,sA⟩;refine⟨rfl,?_⟩;have:=(hS.at_ hs.length (lI w.heap.size w) (by simp)).1;exact⟨sA.os,sA.tape,sA.output,sA.size,fun k hk=>this.2 k hk⟩
end Go.RX
