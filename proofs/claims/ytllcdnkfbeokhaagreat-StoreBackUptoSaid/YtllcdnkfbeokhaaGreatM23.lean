/- Executor. -/
import Derived.Test.YtllcdnkfbeokhaaGreatM22
open Array renaming getD_eq_getD_getElem? → auQ, getElem?_eq_some_iff → auy
open Bool renaming and_eq_true → ai
open Go.Region renaming binds → au_
open List renaming all_eq_true → auo, map_cons → auK, mem_append → auE, mem_cons_self → aur, mem_filter → auR, mem_map → auL, mem_range → auG, mem_singleton → auz
open Nat renaming blt_eq → auF, lt_of_lt_of_le → auB
open Option renaming map_eq_some_iff → aus
open Option.some renaming injEq → auq
namespace Go.RX
section
variable {P:Program} {C:Ctx} {al:Value→List HP→Prop} {Fs:List HP} {w0:World} {all:Array Oper} {pm:List Nat}
variable {ro:Option Nat} {nt:NT} {a0:Act} {aQ:Array Bool} {a:Act} {w:World} {rest:List Nat} {done:Nat} {log:List (Nat×List Nat)} {st:St} {ρ:Env} {W:List Wr}
theorem Oper.Qc{F:Fence}{n:Nat}{o:Oper}{K:Act→World→Prop}{Q:Exit→Act→World→Prop}(hh:o.wpIn F n P a w K Q):
  o.wpIn F n P a w (fun a' w'=>K a' w'∧(a'.defers≠a.defers∨∃u,a'=a.put o.dst u)) Q:=by
 unfold Oper.wpIn at*;refine⟨hh.1,?_⟩;have hh:=hh.2;generalize (o.semAt F.round a.eval).run P w=r at*;cases r with
 | ok x w'=>
  cases x<;>simp only [Oper.uponIn]at hh ⊢ <;>
   first
    | exact⟨hh,.inr ⟨_,rfl⟩⟩
    | exact⟨hh,.inl (by rw [put_defers];simp)⟩
    | exact⟨hh.1,CallsIn.mono hh.2 (fun e w'' he=>by cases e<;>first | exact⟨he,.inr ⟨_,rfl⟩⟩ | exact he)⟩
    | exact⟨hh.1,RowsIn.mono hh.2 (fun _ _ he=>⟨he,.inr ⟨_,rfl⟩⟩)⟩
    | exact⟨hh.1,RoundIn.mono hh.2 (fun e w'' he=>by cases e<;>first | exact⟨he,.inr ⟨_,rfl⟩⟩ | exact he)⟩
    | exact hh
 | halt x w'=>cases x<;>simp only [Oper.uponIn]at hh ⊢ <;>exact hh
theorem Oper.IV{F:Fence}{n:Nat}{o:Oper}{K K':Act→World→Prop}{Q Q':Exit→Act→World→Prop}(h: ∀a w,K a w→K' a w)(hq: ∀c a w,¬Q (.panic c) a w)(ho: ¬LetsOut Q)
  (hh:o.wpIn F n P a w K Q):o.wpIn F n P a w K' Q':=by
 unfold Oper.wpIn at*;refine⟨hh.1,?_⟩;have hh:=hh.2;generalize (o.semAt F.round a.eval).run P w=r at*;cases r with
 | ok x w'=>
  cases x<;>simp only [Oper.uponIn]at hh ⊢ <;>
   first
    | exact h _ _ hh
    | exact⟨hh.1,CallsIn.mono hh.2 (fun e w'' he=>by cases e<;>first | exact h _ _ he | exact absurd he (hq _ _ _) | exact absurd he ho)⟩
    | exact⟨hh.1,RowsIn.mono hh.2 (fun _ _ he=>h _ _ he)⟩
    | exact⟨hh.1,RoundIn.mono hh.2 (fun e w'' he=>by cases e<;>first | exact h _ _ he | exact absurd he (hq _ _ _) | exact absurd he ho)⟩
 | halt x w'=>cases x<;>simp only [Oper.uponIn]at hh ⊢ <;>first | exact absurd hh (hq _ _ _) | exact hh
theorem MX{c:cG}{hp nh:List Ck}{rd:List Nat}{ρ bJ:Env}(h:kept c hp nh rd=true)(fA:iF c ρ bJ){j:Nat}(hj:j∈rd){a:Ck}(ha:hp[j]? =some a):
  ∃b,nh[j]? =some b∧b.den bJ=a.den ρ:=by
 have h1:=auo.1 h j hj;simp only [ha]at h1;split at h1
 ·rename_i x b hx hb;cases hx;split at h1
  ·rename_i l hl;refine⟨b,hb,(tC fA.va hl fun y hy=>tA fA (auo.1 h1 y hy)).symm⟩
  ·cases h1
 ·rename_i hx;cases hx
 ·cases h1
theorem DI.effect{n:Nat}(O4:uo P C al Fs w0 n){k:List KI}(ik:DX ρ k ro)(h:DI P Fs w0 all ro nt a0 aQ a w rest done log st ρ W)(vJ:mf all pm=true)(C1:Ap all pm=true){e:Nat}{o:Oper}(he:all[e]? =some o)(her:e∈rest)
  (uP:lv aQ e=false) (qk: ∀x∈o.after,au_ .any x=true→lv aQ x.on=true) (yX:rP st o.dst=true) {L:Nat→LC}
  (hv:VC P al (run C n (.ops all [o]:: .Qd all pm e rest done log st.fn st.nt st.fr st.hp st.a_::k) {st with fr:=restrict st.fr (slotsOf all o)}) ρ L) (Q:Exit→Act→World→Prop) (K:Act→World→Prop)
  (hK: ∀a' w',(∃m,m<n∧∃rest done log st bJ L' W,VC P al (run C m (.um all pm rest done log::k) st) bJ L'∧Env.Le ρ bJ∧(∀j,j<nl k→L' j=L j)∧DI P Fs w0 all ro nt a0 (aQ.setIfInBounds e true) a' w' rest done log st bJ W)→K a' w'):
  wpOpIn (FW ro) 0 P all Q e K a w:=by
 have heW:e ∉ W.map (·.1):=((h.rest e).1 her).2;have hel:e<aQ.size:=by rw [h.UO];exact(auy.1 he).1
 have ac9:a.defers=(nY a0 W).defers:=by rw [h.act,mc,mc]
 have gx:nt.n≤a.tmps.size:=by rw [h.act,pB,←pB W];exact h.ha.size
 have ha:HA (restrict st.fr (slotsOf all o)) nt ρ a:=by
  refine yg h.ha (fun s hs=>?_) ac9 gx;rw [h.act];have:=yh (a0:=a0) (aQ:=aQ) (W1:=W) (tail:=[]) (s:=s) (fun y hy KG=>h.before vJ C1 he qk (tail:=[]) (by simp) heW (.inl hs) y hy KG) (fun y hy=>by cases hy)
  rwa [List.append_nil]at this
 have hw:HW Fs w0 {st with fr:=restrict st.fr (slotsOf all o)} ρ w:=
  ⟨h.hw.lens,auo.2 fun x hx=>auo.1 h.hw.mj x (auR.1 hx).1,h.hw.gP,h.hw.o9,h.hw.kn,h.hw.own,h.hw.same,h.hw.ng⟩
 have XJ:=O4 ro all [o] _ _ ρ L a w hv hw (by rw [show({st with fr:=restrict st.fr (slotsOf all o)}:St).nt=st.nt from rfl,h.O3];exact ha) (ik.push rfl);have fin: ∀a' w',QK P C al Fs w0 n (.Qd all pm e rest done log st.fn st.nt st.fr st.hp st.a_::k) ρ L .normal a' w'→(a'.defers≠a.defers∨∃u,a'=a.put o.dst u)→K a' w':=by
  intro a' w' hq yU;obtain⟨k',hk,m,hm,d_,bJ,L',g1,g2,g3,g4,g5⟩:=hq;cases hk;cases m with
  | zero=>exact g5.elim
  | succ m=>
   simp only [run,he]at g5;split at g5
   case isFalse=>exact g5.elim
   rename_i IW;rw [ai,beq_iff_eq]at IW;obtain⟨IW,Cn⟩:=IW;obtain⟨u,rfl⟩: ∃u,a'=a.put o.dst u:=by
    rcases yU with yU | yU
    ·rw [g4.defers,ac9,h.ha.defers,Cn,h.O3]at yU;exact absurd (vL (Env.Le.e9 h.hw.lens g1) (by rw [←h.O3];exact h.hw.ng)).symm yU
    ·exact yU
   split at g5
   case h_2=>exact g5.elim
   rename_i v s7;have fA:=Env.Le.e9 h.hw.lens g1;have eV:=iG.le h.hw.lens g3.lens g1;have Ie:v.sc d_.a_=true:=by
    cases hd:o.dst with
    | none=>rw [hd]at s7;simp only [auq]at s7;subst s7;rfl
    | some d=>rw [hd]at s7;exact DU g3.mj s7
   have KH:HW Fs w0 (hU d_ st.fn st.nt st.fr) bJ w':=⟨g3.lens,de eV h.hw.mj,g3.gP,g3.o9,g3.kn,g3.own,g3.same,dU eV h.hw.ng⟩;have hpr:=fb (hU d_ st.fn st.nt st.fr) o.dst v;have xf: ∀j,lv (aQ.setIfInBounds e true) j=(decide (e=j)||lv aQ j):=fun j=>zq hel
   refine hK _ _ ⟨m,by omega,_,_,_,_,bJ,L',W++[(e,o.dst,u)],g5,g1,g2,?_⟩;refine⟨KH.put Ie,by rw [hpr.2.2.2.1];exact h.O3,?_,?_,?_,?_,?_,?_,by simp [h.UO],?_,?_,?_⟩
   ·have f1:W.filter (fun y=>lv (aQ.setIfInBounds e true) y.1)=W.filter (fun y=>lv aQ y.1):=List.filter_congr fun y hy=>by
     have:e≠y.1:=fun ee=>heW (by rw [ee];exact auL.2 ⟨y,hy,rfl⟩)
     rw [xf];simp [this]
    rw [List.filter_append,f1,List.filter_cons_of_pos (by rw [xf];simp),List.filter_nil,kx,vG,←h.act]
   ·rw [kx,vG];have ha3:=h.ha.more h.hw.mj (by rw [←h.O3];exact h.hw.ng) fA;cases hd:o.dst with
    | none=>exact ha3
    | some d=>
     have hdl:d<nt.n:=by rw [←h.O3];exact vK yX d hd
     refine HA.put ha3 (fun x hx=>by cases hx;exact hdl) ?_ _ rfl;rw [hd]at s7;have:=g4.aX d v s7;rw [hd,Ao a d u (auB hdl gx)]at this;exact this
   ·rw [List.map_append,List.nodup_append];exact⟨h.nd,by simp,fun x hx y hy=>by
     simp only [auK,List.map_nil,auz]at hy;subst hy;intro hxy;subst hxy;exact heW hx⟩
   ·intro j;rw [yi,Bool.or_eq_true,h.done,List.map_append,auE];simp only [decide_eq_true_eq,auK,List.map_nil,auz];exact⟨fun hj=>hj.imp id Eq.symm,fun hj=>hj.imp id Eq.symm⟩
   ·intro j;rw [auR,h.rest,List.map_append,auE];simp only [bne_iff_ne,ne_eq,auK,List.map_nil,auz,not_or,and_assoc]
   ·intro j hj;rw [List.map_append,auE];rw [xf,Bool.or_eq_true]at hj;rcases hj with hj | hj
    ·right;rw [←of_decide_eq_true hj];simp
    ·exact .inl (h.sub j hj)
   ·intro p op C4 hp x hx hb;rw [xf,Bool.or_eq_true]at hp ⊢;rcases hp with hp | hp
    ·have:=of_decide_eq_true hp;subst this;rw [he]at C4;cases C4;exact .inr (qk x hx hb)
    ·exact .inr (h.clL p op C4 hp x hx hb)
   ·intro W1 x W2 hW;rcases ql hW with⟨rfl,rfl,rfl⟩ | ⟨MT,rfl,UR⟩
    ·exact⟨o,he,rfl,fun x hx hb=>h.sub _ (qk x hx hb)⟩
    ·exact h.UP W1 x MT UR
   ·intro W1 x W2 hW IU;rcases ql hW with⟨rfl,rfl,rfl⟩ | ⟨MT,rfl,UR⟩
    ·rw [xf]at IU;simp at IU
    ·rw [xf,Bool.or_eq_false_iff]at IU;obtain⟨o',rd,hp,sP,h1,h2,h3,h4⟩:=h.UQ W1 x MT UR IU.2;refine⟨o',rd,hp,sP,h1,h2,h3,fun j hj ck F5=>?_⟩;obtain⟨TQ,MP,As⟩:=h4 j hj ck F5;have hx:=auo.1 IW _ h2;simp only [Bool.or_eq_true]at hx;rcases hx with hx | hx
     ·have hxl:x.1<all.size:=(auy.1 h1).1;have:=vI C1 (fun q=>lv aQ q=true) h.clL he qk hxl hx;rw [IU.2]at this;cases this
     ·obtain⟨b,hb,hbd⟩:=MX hx fA hj MP;exact⟨b,by rw [hpr.1];exact hb,by rw [hbd,As]⟩
 unfold wpOpIn;simp only [he];unfold wpListIn at XJ;split
 ·rename_i nG;rw [if_pos nG]at XJ;refine Oper.IV (fun a' w' hh=>fin a' w' hh.1 hh.2) (fun c a' w' hq=>?_) (fun hq=>?_) (Oper.Qc XJ)
  ·obtain⟨k',hk,_⟩:=hq;cases hk
  ·obtain⟨_,_,k',hk,_⟩:=hq;cases hk
 ·rename_i nG;rw [if_neg nG]at XJ;exact⟨XJ.1,fin _ _ XJ.2 (.inr ⟨undef,rfl⟩)⟩
theorem DI.descend(hT:bB P C.T=true){k:List KI}{L:Nat→LC}: ∀{m:Nat} {rest:List Nat} {done:Nat} {log:List (Nat×List Nat)} {st:St} {W:List Wr},
  VC P al (run C m (.um all pm rest done log::k) st) ρ L→DI P Fs w0 all ro nt a0 aQ a w rest done log st ρ W→
  ∃m',m'≤m∧∃rest done log st W,VC P al (run C m' (.um all pm rest done log::k) st) ρ L∧DI P Fs w0 all ro nt a0 aQ a w rest done log st ρ W∧
   (rest=[]∨(rest.find? fun i=>DY all i&&nH all done i)=none)
 | 0,rest,done,log,st,W,hv,_=>hv.elim
 | m+1,[],done,log,st,W,hv,h=>⟨m+1,Nat.le_refl _,[],done,log,st,W,hv,h,.inl rfl⟩
 | m+1,x::r,done,log,st,W,hv,h=>by
  cases hf:(x::r).find? fun i=>DY all i&&nH all done i with
  | none=>exact⟨m+1,Nat.le_refl _,x::r,done,log,st,W,hv,h,.inr hf⟩
  | some i=>
   have DZ:=List.mem_of_find?_eq_some hf;have gJ:=List.find?_some hf;simp only [ai]at gJ;simp only [run,hf]at hv;split at hv
   case h_2=>exact hv.elim
   rename_i o ho;split at hv
   case isFalse=>exact hv.elim
   rename_i yX;split at hv
   ·exact hv.elim
   ·rename_i g hg;split at hv
    case isFalse=>exact hv.elim
    rename_i hgs;split at hv
    case h_2=>exact hv.elim
    rename_i res Ga;split at hv
    case h_2=>exact hv.elim
    rename_i US;obtain⟨cd,hv⟩:=jx h.hw.kn hv;obtain⟨m',Av,q⟩:=DI.descend hT hv (h.quiet hT DZ gJ.2 ho yX hg hgs Ga US cd);exact⟨m',by omega,q⟩
def XK(all:Array Oper)(aQ:Array Bool):Nat:=(List.range all.size).countP fun i=> !lv aQ i
theorem UT(hl:aQ.size=all.size){i:Nat}(hi:i<all.size)(hn:lv aQ i=false):XK all (aQ.setIfInBounds i true)+1≤XK all aQ:=by
 unfold XK;have key: ∀(l:List Nat),l.Nodup→i∈l→l.countP (fun j=> !lv (aQ.setIfInBounds i true) j)+1≤l.countP (fun j=> !lv aQ j):=by
  intro l
  induction l with
  | nil=>intro _ h;cases h
  | cons x r ih=>
   intro iy hm;rw [List.nodup_cons]at iy;rw [List.countP_cons,List.countP_cons,zq (by omega)];by_cases hx:i=x
   ·subst hx;have:r.countP (fun j=> !lv (aQ.setIfInBounds i true) j)=r.countP (fun j=> !lv aQ j):=List.countP_congr fun j hj=>by
     have:i≠j:=fun e=>iy.1 (e▸hj)
     rw [zq (by omega)];simp [this]
    rw [this];simp [hn]
   ·have Av:i∈r:=(List.mem_cons.1 hm).resolve_left hx;have:=ih iy.2 Av;simp only [hx,decide_false,Bool.false_or];omega
 exact key _ List.nodup_range (auG.2 hi)
theorem Qe(h:XK all aQ=0): ∀i,i<all.size→lv aQ i=true:=by
 intro i hi;unfold XK at h;rw [List.countP_eq_zero]at h;have:=h i (auG.2 hi);simpa using this
theorem DI.MY(h:DI P Fs w0 all ro nt a0 aQ a w rest done log st ρ W)(C1:Ap all pm=true)(hr:Region.ready .any all aQ=[]): ∀i,i<all.size→lv aQ i=true:=by
 intro i
 induction i using Nat.strongRecOn with
 | _ i ih=>
  intro hi;cases hl:lv aQ i with
  | true=>rfl
  | false=>
   have hoi:all[i]? =some all[i]:=Array.getElem?_eq_getElem hi;have:i∈Region.ready .any all aQ:=by
    rw [mem_ready];refine⟨?_,_,hoi,fun e he hb=>?_⟩
    ·have DV:i<aQ.size:=by rw [h.UO];exact hi
     unfold lv at hl;rw [auQ,Array.getElem?_eq_getElem DV]at hl ⊢;exact hl
    ·have:=(w6 C1 hoi).1 e he hb;exact ih e.on this (by omega)
   rw [hr]at this;cases this
theorem KJ{aQ:Array Bool}{a:Act}{w:World}{m:Nat}{n:Nat}{rest:List Nat}{done:Nat}{log:List (Nat×List Nat)}{st:St}{ρ:Env}{W:List Wr}{k:List KI}{L:Nat→LC}{KF:Env}{Lb:Nat→LC}
  (nW: ∀i,i<all.size→lv aQ i=true) (hm:m≤n) (hv:VC P al (run C m (.um all pm rest done log::k) st) ρ L) (hle:Env.Le KF ρ) (hL: ∀j,j<nl k→L j=Lb j)
  (h:DI P Fs w0 all ro nt a0 aQ a w rest done log st ρ W):QK P C al Fs w0 n k KF Lb .normal a w:=by
 have hre:rest=[]:=by
  cases hr:rest with
  | nil=>rfl
  | cons x r=>
   have:=(h.rest x).1 (by rw [hr];exact aur);exact absurd (h.sub x (nW x this.1)) this.2
 subst hre;cases m with
 | zero=>exact hv.elim
 | succ m=>
  simp only [run]at hv;have hW:W.filter (fun x=>lv aQ x.1)=W:=by
   rw [List.filter_eq_self];intro x hx;obtain⟨A,B,hAB⟩:=List.append_of_mem hx;obtain⟨o,ho,_⟩:=h.UP A x B hAB;exact nW x.1 (auy.1 ho).1
  have ada:=h.act;rw [hW]at ada;refine⟨k,rfl,m,by omega,st,ρ,L,hle,hL,h.hw,?_,hv⟩;rw [ada,h.O3];exact h.ha
theorem C5{ρ:Env}{L:Nat→LC}: ∀{l:List F},VC P al (Qf l) ρ L→∀x∈l,VC P al x ρ L
 | [],h,_,_=>h.elim
 | [x],h,y,hy=>by
  rw [auz]at hy;exact hy▸h
 | x::y::r,h,z,hz=>by
  rcases List.mem_cons.1 hz with rfl | hz
  ·exact h.1
  ·exact C5 h.2 z hz
theorem Qg(hT:bB P C.T=true){n:Nat}(O4: ∀m,m<n→uo P C al Fs w0 m)(vJ:mf all pm=true)(C1:Ap all pm=true){k:List KI}{KF:Env}{Lb:Nat→LC}(ik:DX KF k ro):
  ∀(fuel:Nat) (aQ:Array Bool) (a:Act) (w:World),XK all aQ≤fuel→
   (∃m,m≤n∧∃rest done log st ρ L W,VC P al (run C m (.um all pm rest done log::k) st) ρ L∧Env.Le KF ρ∧(∀j,j<nl k→L j=Lb j)∧DI P Fs w0 all ro nt a0 aQ a w rest done log st ρ W)→
   wpAnyIn (FW ro) 0 P .any all (QK P C al Fs w0 n k KF Lb) fuel aQ a w:=by
 intro fuel
 induction fuel with
 | zero=>
  intro aQ a w hf ⟨m,hm,rest,done,log,st,ρ,L,W,hv,hle,hL,h⟩;have nW:=Qe (Nat.le_zero.1 hf);refine⟨?_,?_⟩
  ·cases hr:Region.ready .any all aQ with
   | nil=>rfl
   | cons i r=>
    have:i∈Region.ready .any all aQ:=by rw [hr];exact aur
    rw [mem_ready]at this;obtain⟨h0,o,ho,_⟩:=this;have hi:i<all.size:=(auy.1 ho).1;have hl:=nW i hi;unfold lv at hl;have DV:i<aQ.size:=by rw [h.UO];exact hi
    rw [auQ,Array.getElem?_eq_getElem DV]at hl h0;simp at hl h0;rw [hl]at h0;cases h0
  ·exact KJ nW hm hv hle hL h
 | succ fuel ih=>
  intro aQ a w hf ⟨m,hm,rest,done,log,st,ρ,L,W,hv,hle,hL,h⟩;refine⟨fun hr=>KJ (h.MY C1 hr) hm hv hle hL h,fun i hi=>?_⟩;rw [mem_ready]at hi;obtain⟨h0,o,ho,Cm⟩:=hi;have DV:i<all.size:=(auy.1 ho).1;have uP:lv aQ i=false:=by
   have:i<aQ.size:=by rw [h.UO];exact DV
   unfold lv;rw [auQ,Array.getElem?_eq_getElem this]at h0 ⊢;exact h0
  have adb:XK all (aQ.setIfInBounds i true)≤fuel:=by
   have:=UT h.UO DV uP;omega
  obtain⟨m',Av,Qh,Qi,ahA,d_,W',s7,h',UU⟩:=DI.descend hT hv h;by_cases XI:i∈W'.map (·.1)
  ·exact h'.pending vJ C1 ho uP Cm XI _ _ fun a' hD=>ih _ _ _ adb ⟨m',by omega,Qh,Qi,ahA,d_,ρ,L,W',s7,hle,hL,hD⟩
  ·have YT:i∈Qh:=(h'.rest i).2 ⟨DV,XI⟩;have db:nH all Qi i=true:=MU ho fun e he hb=>(h'.done _).2 (h'.sub _ (Cm e he hb))
   rcases UU with rfl | UU
   ·cases YT
   ·cases m' with
    | zero=>exact s7.elim
    | succ m'=>
     cases hre:Qh with
     | nil=>rw [hre]at YT;cases YT
     | cons x r=>
      rw [hre]at s7 UU;simp only [run,UU]at s7;have hiL:i∈(x::r).filter (nH all Qi):=auR.2 ⟨hre▸YT,db⟩;have s7:=C5 s7 _ (auL.2 ⟨i,hiL,rfl⟩);simp only [ho]at s7;split at s7
      case isFalse=>exact s7.elim
      rename_i yX;rw [←hre]at s7;refine DI.effect (O4 m' (by omega)) (ik.le hle) h' vJ C1 ho YT uP Cm yX s7 _ _ fun a' w' hq=>ih _ _ _ adb ?_
      obtain⟨m2,hm2,ade,adf,log2,Gb,KK,L2,W2,q1,q2,q3,q4⟩:=hq;exact⟨m2,by omega,ade,adf,log2,Gb,KK,L2,W2,q1,hle.trans q2,fun j hj=>(q3 j hj).trans (hL j hj),q4⟩
theorem HW.drew(h:HW Fs w0 st ρ w)(d:Nat):HW Fs w0 st ρ {w with drawn:=d}:=by
 refine⟨h.lens,h.mj,h.gP,h.o9,h.kn,?_,h.same.trans ⟨rfl,rfl,rfl,Nat.le_refl _⟩,h.ng⟩;obtain⟨S,hS⟩:=h.own;exact⟨S,hS.YB (Nat.le_refl _) fun _ _=>rfl⟩
theorem Gc(hT:bB P C.T=true)(hm:P.follows .mixedOrders=true){n:Nat}(O4: ∀m,m<n→uo P C al Fs w0 m):IX P C al Fs w0 n:=by
 intro ro id all pm k st ρ L a w hv vJ C1 hw ha ik;refine wpIn_region_any hm (Qg (ro:=ro) (nt:=st.nt) (a0:=a) hT O4 vJ C1 ik _ _ _ _ ?_ ⟨n,Nat.le_refl _,_,_,_,_,ρ,L,[],hv,Env.Le.refl _,fun _ _=>rfl,?_⟩)
 ·unfold XK;exact Nat.le_trans List.countP_le_length (by simp)
 ·have Ij: ∀i,lv (Array.replicate all.size false) i=false:=by
   intro i;unfold lv;rw [auQ];by_cases hi:i<all.size
   ·simp [hi]
   ·rw [Array.getElem?_eq_none (by simpa using hi)];rfl
  refine⟨hw.drew _,rfl,rfl,ha,List.nodup_nil,fun i=>by simp,fun i=>by simp,fun i hi=>?_,by simp,fun p o _ hp=>?_,fun W1 x W2 hW=>?_,fun W1 x W2 hW=>?_⟩
  ·rw [Ij]at hi;cases hi
  ·rw [Ij]at hp;cases hp
  ·simp at hW
  ·simp at hW
end
section
variable {P:Program} {C:Ctx} {al:Value→List HP→Prop} {Fs:List HP} {w0:World}
theorem C6(hT:bB P C.T=true){n N:Nat}(hnN:n<N)(yj: ∀m,m<N→rQ P C al Fs w0 m){ro:Option Nat}{c:Code}{fd:Func}{f:Nat}(hf:P.funcs[f]? =some fd)(hb:fd.body=some c){k:List KI}{st:St}{ρ KF:Env}{L Lb:Nat→LC}{w:World}
  {az:List SV} {l r fn:Nat} {nt:NT} {fr:List (Nat×SV)} {ps:Array Tmp} {x y:Code} {a':Act}
  (hv:VC P al (run C n (.code c:: .rf l r fn nt fr ps x y fd::k) (hU st f ⟨fd.ntmps,[]⟩ (fI 0 az))) ρ L) (jM:SV.qM st.a_ az=true) (hw:HW Fs w0 st ρ w)
  (ik:DX ρ (.rf l r fn nt fr ps x y fd::k) none) (XL:DX ρ k ro) (XD:mP st.a_ fr=true) (O5:nt.ds.all (MK.sc st.a_)=true) (ha:HA fr nt ρ a') (hle:Env.Le KF ρ) (hL: ∀j,j<nl k→L j=Lb j) (hl:l<st.a_.b):
  CallsIn (FW none) 0 P f (SV.bH ρ az).toArray w (rangePost (FW ro) 0 P (ρ.bv.getD l 0) (QK P C al Fs w0 N k KF Lb) a'):=by
 refine callsIn_of_wp_marks hf hb trivial ?_ rfl;have YU:HW Fs w0 (hU st f ⟨fd.ntmps,[]⟩ (fI 0 az)) ρ w:=⟨hw.lens,zt az 0 jM,hw.gP,hw.o9,hw.kn,hw.own,hw.same,rfl⟩;refine wpIn_mono (yj n hnN none c _ _ ρ L _ w hv YU (Aw az fd.ntmps) ik) ?_;have key: ∀a1 w1,At P C al Fs w0 n (.rf l r fn nt fr ps x y fd::k) ρ L a1 w1→LeavesInM (FW none) 0 P fd a1.tmps (rangePost (FW ro) 0 P (ρ.bv.getD l 0) (QK P C al Fs w0 N k KF Lb) a') a1.defers .returning w1:=by
  intro a1 w1 ⟨m,hm,d_,bJ,L',h1,h2,h3,h4,h5⟩;cases m with
  | zero=>exact h5.elim
  | succ m=>
   simp only [run]at h5;split at h5
   case h_2=>exact h5.elim
   rename_i Gb KL;have Qj:Gb.fr=d_.fr∧Gb.nt=d_.nt∧Gb.a_=d_.a_:=by
    unfold ou at KL;rw [aus]at KL;obtain⟨nh,_,rfl⟩:=KL;exact⟨rfl,rfl,rfl⟩
   split at h5
   case h_2=>exact h5.elim
   rename_i v i r' s j hv IY;split at h5
   ·exact h5.elim
   ·rename_i adg;refine oV KL h3 h4 fun w2 D0=>?_
    refine⟨_,qm hT D0 (nt:=d_.nt) (by rw [Qj.1];exact h4) hv,?_⟩;have mw:=ni D0 IY;have hbv:bJ.bv.getD l 0=ρ.bv.getD l 0:=((Env.Le.e9 hw.lens h1).b l hl).symm;rw [hbv]at mw;refine⟨j.code,_,run_endLoop mw (by cases s<;>first | (simp [RS.st];done) | exact absurd rfl adg),?_⟩;have KH:=D1 D0 IY .exhausted j;rw [hbv]at KH;have eV:=iG.le hw.lens D0.lens h1;have Qk:HW Fs w0 (hU {Gb with hp:=Gb.hp.set i (.my l r' .exhausted j)} fn nt fr) bJ _:=⟨KH.lens,de eV XD,KH.gP,KH.o9,KH.kn,KH.own,KH.same,dU eV O5⟩;have ha4:HA fr nt bJ a':=ha.more XD O5 (Env.Le.e9 hw.lens h1);have YI: ∀q,q<nl k→L' q=Lb q:=fun q hq=>(h2 q hq).trans (hL q hq)
    cases j with
    | none=>
     exact⟨k,rfl,m,by omega,_,bJ,L',hle.trans h1,YI,Qk,ha4,h5⟩
    | ret=>
     exact wpIn_mono (yj m (by omega) ro .ret k _ bJ L' a' _ h5 Qk ha4 (XL.le h1)) fun e a w hq=>hq.mono (by omega) (hle.trans h1) YI
    | exit id=>
     exact wpIn_mono (yj m (by omega) ro (.exit id) k _ bJ L' a' _ h5 Qk ha4 (XL.le h1)) fun e a w hq=>hq.mono (by omega) (hle.trans h1) YI
 intro e a1 w1 hq;obtain⟨k',hk,dH⟩:=hq;cases e with
 | normal=>cases hk;exact key a1 w1 dH
 | ret=>cases hk;exact key a1 w1 dH
 | exit id=>cases hk
 | goto l=>cases hk
 | panic l=>cases hk
 | outgrown=>cases hk
theorem MZ{ρ:Env}{c:cG}(h:iG ρ c)(l:Nat)(q:Loop):iG (ρ.ext ⟨[l],[],[],[],[],[],[q]⟩) {c with b:=c.b+1,r:=c.r+1}:=
 ⟨by simp [Env.ext,h.b],by simp [Env.ext,h.v],by simp [Env.ext,h.i],by simp [Env.ext,h.a],by simp [Env.ext,h.bo],by simp [Env.ext,h.p],by simp [Env.ext,h.r]⟩
theorem M0{ρ:Env}{c:cG}(h:iG ρ c)(d l:Nat)(q:Loop):iG (ρ.ext ⟨[d,l],[],[],[],[],[],[q]⟩) {c with b:=c.b+2,r:=c.r+1}:=
 ⟨by simp [Env.ext,h.b],by simp [Env.ext,h.v],by simp [Env.ext,h.i],by simp [Env.ext,h.a],by simp [Env.ext,h.bo],by simp [Env.ext,h.p],by simp [Env.ext,h.r]⟩
theorem uq(w:World)(o:Obj):iP w (w.alloc o):=⟨rfl,rfl,rfl,by simp⟩
theorem Gd(hT:bB P C.T=true)(B5:aJ P C.FT){n:Nat}(yj: ∀m,m<n→rQ P C al Fs w0 m):Ql P C al Fs w0 n:=by
 intro ro g ps x y k st ρ L a w hv hw ha ik;cases n with
 | zero=>exact hv.elim
 | succ n=>
  have hn:n<n+1:=Nat.lt_succ_self n;simp only [run]at hv;split at hv
  case h_2=>exact hv.elim
  rename_i f jq hg;have hev:=eH ha.eval hg;split at hv
  ·exact hv.elim
  rename_i fd Ax;have DZ:=List.mem_of_find?_eq_some Ax;have Mx:=List.find?_some Ax;simp only [beq_iff_eq]at Mx;obtain⟨hf,Ge⟩:=B5 _ DZ;simp only at hf Ge;rw [Mx]at hf;split at hv
  ·exact hv.elim
  rename_i c hb;split at hv
  case isFalse=>exact hv.elim
  rename_i C7;have YV: ¬fd.name= "runtime.NumGoroutine" :=by simpa using Ge
  have Ga: ∀(l:Nat) (w1:World),(resolve a.eval (rangeCall g l) 0).run P w1= .ok {target:= .fn (.func f) (SV.bH ρ jq).toArray,args:= #[.func (.yield l) #[] #[]]} w1:=by
   intro l w1;simp only [resolve,hev,SV.val,Deferred.ofValue];simp [Act.eval]
  have hinv: ∀(l:Nat) (w1:World),(invoke (.fn (.func f) (SV.bH ρ jq).toArray) #[.func (.yield l) #[] #[]]).run P w1= .ok (.enter f (#[.func (.yield l) #[] #[]]++(SV.bH ρ jq).toArray)) w1:=by
   intro l w1;simp [invoke,callFunc,hf,YV,hb]
  have ML:=ik.ro;split at hv
  ·
   rename_i har;rw [har]at ML;simp only at ML;subst ML;refine wpIn_rangeFunc fun fn _=>?_
   have e1:=run_enterLoop_outer (P:=P) (w:=w) fn a.tmps ps x y;refine⟨_,_,_,_,_,f,_,_,e1,Ga _ _,fun _ _=>trivial,hinv _ _,fun h=>(by cases h),?_⟩;simp only [VC]at hv;have ye:=hv w.heap.size (w.heap.size+1) {state:= .ready,pending:=none,fn,tmps:=a.tmps,params:=ps,assign:=x,body:=y,defers:=w.heap.size};generalize hq:({state:= .ready,pending:=none,fn,tmps:=a.tmps,params:=ps,assign:=x,body:=y,defers:=w.heap.size}:Loop)=q at ye e1 ⊢;have hle:=Env.iS ρ ⟨[w.heap.size,w.heap.size+1],[],[],[],[],[],[q]⟩;have fA:=Env.Le.e9 hw.lens hle;have hl:=M0 hw.lens w.heap.size (w.heap.size+1) q;have eV:=iG.le hw.lens hl hle;have b1:(ρ.ext ⟨[w.heap.size,w.heap.size+1],[],[],[],[],[],[q]⟩).bv.getD st.a_.b 0=w.heap.size:=by simp [Env.ext,←hw.lens.b]
   have b2:(ρ.ext ⟨[w.heap.size,w.heap.size+1],[],[],[],[],[],[q]⟩).bv.getD (st.a_.b+1) 0=w.heap.size+1:=by simp [Env.ext,←hw.lens.b]
   have b3:(ρ.ext ⟨[w.heap.size,w.heap.size+1],[],[],[],[],[],[q]⟩).lr.getD st.a_.r jA=q:=by simp [Env.ext,←hw.lens.r]
   have hqr:({q with state:=RS.ready.st,pending:=Jump.none.code}:Loop)=q:=by subst hq;rfl
   have M1:q.params=ps:=by subst hq;rfl
   have hqa:q.assign=x:=by subst hq;rfl
   have hqb:q.body=y:=by subst hq;rfl
   have hqt:q.tmps=a.tmps:=by subst hq;rfl
   clear hq;generalize ahG:ρ.ext ⟨[w.heap.size,w.heap.size+1],[],[],[],[],[],[q]⟩=sP at ye hle fA hl b1 b2 b3;have adi:bz ((st.hp.map (Ck.den sP)++[zQ w.heap.size])++Fs) (w.alloc (.deferred (some []))):=by
    refine bz.add (by rw [←lF fA hw.gP];exact hw.own) _ (fun k=>k=w.heap.size) (by simp) (fun k hk=>heap_alloc_old w _ hk) ⟨fun _=>Iff.rfl,heap_alloc_new w _⟩ (fun k hk=>by simp;omega)
   have Qm:bz (((st.hp.map (Ck.den sP)++[zQ w.heap.size])++[PK (w.heap.size+1) q])++Fs) ((w.alloc (.deferred (some []))).alloc (.loop q)):=by
    have gx:(w.alloc (.deferred (some []))).heap.size=w.heap.size+1:=by simp
    refine bz.add adi _ (fun k=>k=w.heap.size+1) (by simp) (fun k hk=>heap_alloc_old _ _ hk) ⟨fun _=>Iff.rfl,?_⟩ (fun k hk=>by simp;omega);have:=heap_alloc_new (w.alloc (.deferred (some []))) (.loop q)
    rwa [gx]at this
   have zp:HW Fs w0 {st with hp:=st.hp++[.MO st.a_.b]++[.my (st.a_.b+1) st.a_.r .ready .none],a_:={st.a_ with b:=st.a_.b+2,r:=st.a_.r+1}} sP ((w.alloc (.deferred (some []))).alloc (.loop q)):=by
    refine⟨hl,de eV hw.mj,?_,gg eV hw.o9,fun b hb=>(BE.i_ fA (auo.1 hw.o9 b hb)).1 (hw.kn b hb),?_,(hw.same.trans (uq _ _)).trans (uq _ _),dU eV hw.ng⟩
    ·simp only [List.all_append,ai,List.all_cons,List.all_nil,Ck.sc,auF];exact⟨⟨jN eV hw.gP,by omega,trivial⟩,⟨by omega,by omega⟩,trivial⟩
    ·simp only [List.map_append,auK,List.map_nil,Ck.den,b1,b2,b3,hqr];exact Qm
   have Qn:mP {st.a_ with b:=st.a_.b+2,r:=st.a_.r+1} st.fr=true:=de eV hw.mj;have ahH:(MK.one st.a_.b::st.nt.ds).all (MK.sc {st.a_ with b:=st.a_.b+2,r:=st.a_.r+1})=true:=by
    rw [List.all_cons,ai,MK.sc,auF];exact⟨by show st.a_.b<st.a_.b+2;omega,dU eV hw.ng⟩
   have IZ:=ha.more hw.mj hw.ng fA;have Gf:DX sP (.rf (st.a_.b+1) st.a_.r st.fn ⟨st.nt.n,.one st.a_.b::st.nt.ds⟩ st.fr ps x y fd::k) none:=by
    refine⟨fun l r fn nt fr ps' x' y' fd' hm=>?_,rfl⟩;rcases List.mem_cons.1 hm with hm | hm
    ·cases hm;refine⟨sP,_,hl,Env.Le.refl _,Qn,by simp,by rw [b3,M1],by rw [b3,hqa],by rw [b3,hqb],?_⟩;rw [b3,hqt];exact⟨rfl,IZ.size,IZ.aX⟩
    ·exact(ik.le hle).rf l r fn nt fr ps' x' y' fd' hm
   have rR:=C6 (Lb:=L) hT hn yj hf hb (a':={a with defers:=[{target:= .collected w.heap.size,args:= #[]}]++a.defers}) ye
    (by simp only [SV.qM,SV.sc,ai,auF];exact⟨by omega,SV.fH eV C7⟩) zp Gf (ik.le hle) Qn ahH
    ⟨by rw [ha.defers,vL fA hw.ng];simp only [marks,List.flatMap_cons,MK.blocks,auK,b1,List.singleton_append],IZ.size,IZ.aX⟩ hle (fun _ _=>rfl) (by simp)
   rw [b2]at rR;have lx:(SV.bH sP (.Mk (st.a_.b+1)::jq)).toArray= #[.func (.yield (w.heap.size+1)) #[] #[]]++(SV.bH ρ jq).toArray:=by
    simp only [SV.bH,SV.val,b2,(SV.gO fA C7).1];simp
   rw [lx]at rR;exact rR
  ·
   rename_i l0 har;rw [har]at ML;simp only at ML;obtain⟨yl,c0,k1,k2,k3,k4⟩:=ML;rw [(Env.Le.e9 k1 k2).b l0 k3]at k4;split at hv
   case h_2=>exact hv.elim
   rename_i rc IY;obtain⟨i0,r0,s0,j0⟩:=rc;have mw:=ni hw IY;refine wpIn_rangeFunc fun fn _=>?_
   have e1:=run_enterLoop_inner (P:=P) (w:=w) mw fn a.tmps ps x y;rw [show(FW ro).round=ro from rfl,k4];refine⟨_,_,_,_,_,f,_,_,e1,Ga _ _,fun _ _=>trivial,hinv _ _,fun h=>(by cases h),?_⟩;simp only [VC]at hv;have ye:=hv w.heap.size {state:= .ready,pending:=none,fn,tmps:=a.tmps,params:=ps,assign:=x,body:=y,defers:=({ρ.lr.getD r0 jA with state:=s0.st,pending:=j0.code}:Loop).defers};generalize hq:({state:= .ready,pending:=none,fn,tmps:=a.tmps,params:=ps,assign:=x,body:=y,defers:=({ρ.lr.getD r0 jA with state:=s0.st,pending:=j0.code}:Loop).defers}:Loop)=q at ye e1 ⊢;have hle:=Env.iS ρ ⟨[w.heap.size],[],[],[],[],[],[q]⟩;have fA:=Env.Le.e9 hw.lens hle;have hl:=MZ hw.lens w.heap.size q;have eV:=iG.le hw.lens hl hle;have b2:(ρ.ext ⟨[w.heap.size],[],[],[],[],[],[q]⟩).bv.getD st.a_.b 0=w.heap.size:=by simp [Env.ext,←hw.lens.b]
   have b3:(ρ.ext ⟨[w.heap.size],[],[],[],[],[],[q]⟩).lr.getD st.a_.r jA=q:=by simp [Env.ext,←hw.lens.r]
   have hqr:({q with state:=RS.ready.st,pending:=Jump.none.code}:Loop)=q:=by subst hq;rfl
   have M1:q.params=ps:=by subst hq;rfl
   have hqa:q.assign=x:=by subst hq;rfl
   have hqb:q.body=y:=by subst hq;rfl
   have hqt:q.tmps=a.tmps:=by subst hq;rfl
   clear hq;generalize ahG:ρ.ext ⟨[w.heap.size],[],[],[],[],[],[q]⟩=sP at ye hle fA hl b2 b3;have Qm:bz ((st.hp.map (Ck.den sP)++[PK w.heap.size q])++Fs) (w.alloc (.loop q)):=by
    refine bz.add (by rw [←lF fA hw.gP];exact hw.own) _ (fun k=>k=w.heap.size) (by simp) (fun k hk=>heap_alloc_old w _ hk) ⟨fun _=>Iff.rfl,heap_alloc_new w _⟩ (fun k hk=>by simp;omega)
   have zp:HW Fs w0 {st with hp:=st.hp++[.my st.a_.b st.a_.r .ready .none],a_:={st.a_ with b:=st.a_.b+1,r:=st.a_.r+1}} sP (w.alloc (.loop q)):=by
    refine⟨hl,de eV hw.mj,?_,gg eV hw.o9,fun b hb=>(BE.i_ fA (auo.1 hw.o9 b hb)).1 (hw.kn b hb),?_,hw.same.trans (uq _ _),dU eV hw.ng⟩
    ·simp only [List.all_append,ai,List.all_cons,List.all_nil,Ck.sc,auF];exact⟨jN eV hw.gP,⟨by omega,by omega⟩,trivial⟩
    ·simp only [List.map_append,auK,List.map_nil,Ck.den,b2,b3,hqr];exact Qm
   have Qn:mP {st.a_ with b:=st.a_.b+1,r:=st.a_.r+1} st.fr=true:=de eV hw.mj;have IZ:=ha.more hw.mj hw.ng fA;have Gf:DX sP (.rf st.a_.b st.a_.r st.fn st.nt st.fr ps x y fd::k) none:=by
    refine⟨fun l r fn nt fr ps' x' y' fd' hm=>?_,rfl⟩;rcases List.mem_cons.1 hm with hm | hm
    ·cases hm;refine⟨sP,_,hl,Env.Le.refl _,Qn,by simp,by rw [b3,M1],by rw [b3,hqa],by rw [b3,hqb],?_⟩;rw [b3,hqt];exact⟨rfl,IZ.size,IZ.aX⟩
    ·exact(ik.le hle).rf l r fn nt fr ps' x' y' fd' hm
   have rR:=C6 (Lb:=L) (ro:=ro) hT hn yj hf hb (a':={a with defers:=[]++a.defers}) ye
    (by simp only [SV.qM,SV.sc,ai,auF];exact⟨by omega,SV.fH eV C7⟩) zp Gf (ik.le hle) Qn (dU eV hw.ng)
    ⟨IZ.defers,IZ.size,IZ.aX⟩ hle (fun _ _=>rfl) (by simp)
   rw [b2]at rR;have lx:(SV.bH sP (.Mk st.a_.b::jq)).toArray= #[.func (.yield w.heap.size) #[] #[]]++(SV.bH ρ jq).toArray:=by
    simp only [SV.bH,SV.val,b2,(SV.gO fA C7).1];simp
   rw [lx]at rR;rw [k4]at rR;exact rR
end
section
variable {P:Program} {C:Ctx} {al:Value→List HP→Prop} {Fs:List HP} {w0:World}
theorem M3(hT:bB P C.T=true)(B5:aJ P C.FT)(D2:gW P C)(hm:P.follows .mixedOrders=true)(n:Nat):rQ P C al Fs w0 n∧uo P C al Fs w0 n∧IX P C al Fs w0 n:=by
 induction n using Nat.strongRecOn with
 | _ n ih=>exact⟨Gg hT (fun m hm=>(ih m hm).1) (fun m hm=>(ih m hm).2.1) (fun m hm=>(ih m hm).2.2) (Gd hT B5 fun m hm=>(ih m hm).1),Gi hT B5 D2 (fun m hm=>(ih m hm).1) (fun m hm=>(ih m hm).2.1),Gc hT hm (fun m hm=>(ih m hm).2.1)⟩
theorem aq.D3(hT:bB P C.T=true)(B5:aJ P C.FT)(hm:P.follows .mixedOrders=true){f:Nat}{fd:Func}(hf:P.funcs[f]? =some fd){args:List SV}{hp:List Ck}{a_:cG}{ρ:Env}(hl:iG ρ a_)
  (h:VC P al (nZ C f args hp a_ fd) ρ fun _=>LC.none) (D2:gW P C:=by exact gW.none rfl):aq P f (SV.bH ρ args) (hp.map (Ck.den ρ)) al:=by
 intro w Fs du;unfold nZ at h;split at h
 case h_2=>exact h.elim
 rename_i c hb;split at h
 case isFalse=>exact h.elim
 rename_i jM;simp only [ai]at jM;have hw:HW Fs w {fn:=f,fr:=fI 0 args,hp:=hp,a_:=a_,nt:=⟨fd.ntmps,[]⟩} ρ w:=
  ⟨hl,zt args 0 jM.1,jM.2,rfl,fun b hb=>(by cases hb),du,iP.refl w,rfl⟩
 have XJ:=(M3 (al:=al) (Fs:=Fs) (w0:=w) hT B5 D2 hm 100000).1 none c _ _ ρ _ _ w h hw (Aw args fd.ntmps) ⟨fun l r fn nt fr ps x y fd hm=>(by simp at hm),rfl⟩;have key: ∀a' w',At P C al Fs w 100000 [.top fd] ρ (fun _=>LC.none) a' w'→LeavesInM (FW none) 0 P fd a'.tmps (fun e w'=> ∃v hs,e= .returned v∧al v hs∧bz (hs++Fs) w'∧iP w w') a'.defers .returning w':=by
  intro a' w' ⟨m,hm,d_,bJ,L',h1,h2,h3,h4,h5⟩;cases m with
  | zero=>exact h5.elim
  | succ m=>
   simp only [run]at h5;split at h5
   case h_2=>exact h5.elim
   rename_i Gb KL;have Qj:Gb.fr=d_.fr:=by
    unfold ou at KL;rw [aus]at KL;obtain⟨nh,_,rfl⟩:=KL;rfl
   split at h5
   ·rename_i v hv;refine oV KL h3 h4 fun w2 D0=>?_
    exact⟨_,qm hT D0 (nt:=d_.nt) (by rw [Qj];exact h4) hv,_,_,rfl,h5,D0.own,D0.same⟩
   ·exact h5.elim
 have fin: ∀e a' w',QK P C al Fs w 100000 [.top fd] ρ (fun _=>LC.none) e a' w'→bodyPostM (FW none) 0 P fd (fun e w'=> ∃v hs,e= .returned v∧al v hs∧bz (hs++Fs) w'∧iP w w') e a' w':=by
  intro e a' w' hq;obtain⟨k',hk,dH⟩:=hq;cases e with
  | normal=>cases hk;exact key a' w' dH
  | ret=>cases hk;exact key a' w' dH
  | exit id=>cases hk
  | goto l=>cases hk
  | panic l=>cases hk
  | outgrown=>cases hk
 have main:CallsIn (FW none) 0 P f (SV.bH ρ args).toArray w (fun e w'=> ∃v hs,e= .returned v∧al v hs∧bz (hs++Fs) w'∧iP w w'):=by
  refine callsIn_of_wp_marks hf hb trivial (wpIn_mono XJ ?_) rfl;exact fin
 have main':CallsIn Fence.wide 0 P f (SV.bH ρ args).toArray w (fun e w'=> ∃v hs,e= .returned v∧al v hs∧bz (hs++Fs) w'∧iP w w'):=main;exact callsIn_wide.1 main'
end
theorem aJ.nil{P:Program}:aJ P []:=fun x hx=>(by cases hx)
theorem aJ.cons{P:Program}{FT:List (Nat×Func)}{f:Nat}{fd:Func}(h:P.funcs[f]? =some fd)(hn:(fd.name== "runtime.NumGoroutine")=false)(hr:aJ P FT):aJ P ((f,fd)::FT):=by
 intro x hx;rcases List.mem_cons.1 hx with rfl | hx
 ·exact⟨h,hn⟩
 ·exact hr x hx
def BE.ur(b:BE):Option Bool:=if b.sc {}then some (b.den Ay)else none
theorem aq.law{P:Program}{f:Nat}{args:List Value}{pre:List HP}(h:aq P f args pre fun v _=>v= .bool true)(w:World)(du:bz (pre++[pW w.heap.size w]) w):
  Calls P f args.toArray w fun e w'=>e= .returned (.bool true)∧RowKit.Below w.heap.size w w':=by
 refine(h w _ du).mono ?_;rintro e w' ⟨v,hs,rfl,rfl,⟨S,hS⟩,uu⟩;refine⟨rfl,?_⟩;have:=(hS.at_ hs.length (pW w.heap.size w) (by simp)).1;exact⟨uu.os,uu.tape,uu.output,uu.size,fun k hk=>this.2 k hk⟩
end Go.RX
