/- Executor. -/
import Derived.Test.YtmgbbbmdbpbeeaaM22
open Array renaming getD_eq_getD_getElem? → adS, getElem?_eq_some_iff → adD
open Bool renaming and_eq_true → ai
open Go.Region renaming binds → aeg
open List renaming all_eq_true → adt, map_cons → adT, mem_cons → adW, mem_cons_self → ady, mem_filter → adU, mem_range → adZ, mem_singleton → aea
open Nat renaming blt_eq → adK, lt_of_lt_of_le → adI
open Option renaming map_eq_some_iff → adw
open Option.some renaming injEq → adv
namespace Go.RX
section
variable {P:Program} {C:Ctx} {ax:Value→List HP→Prop} {Fs:List HP} {w0:World} {all:Array Oper} {pm:List Nat}
variable {ro:Option Nat} {nt:NT} {a0:Act} {aR:Array Bool} {a:Act} {w:World} {rest:List Nat} {done:Nat} {log:List (Nat×List Nat)} {st:St} {ρ:Env} {W:List Wr}
theorem Oper.LR{F:Fence}{n:Nat}{o:Oper}{K:Act→World→Prop}{Q:Exit→Act→World→Prop}(hh:o.wpIn F n P a w K Q):
  o.wpIn F n P a w (fun a' w'=>K a' w'∧(a'.defers≠a.defers∨∃u,a'=a.put o.dst u)) Q:=by
 unfold Oper.wpIn at*;refine⟨hh.1,?_⟩;have hh:=hh.2;generalize (o.semAt F.round a.eval).run P w=r at*;cases r with
 | ok x w'=>
  cases x<;>simp only [Oper.uponIn]at hh ⊢ <;>
   first
    | exact⟨hh,.inr ⟨_,rfl⟩⟩
    | exact⟨hh,.inl (by rw [put_defers];simp)⟩
    | exact⟨hh.1,CallsIn.mono hh.2 (fun e Ux he=>by cases e<;>first | exact⟨he,.inr ⟨_,rfl⟩⟩ | exact he)⟩
    | exact⟨hh.1,RowsIn.mono hh.2 (fun _ _ he=>⟨he,.inr ⟨_,rfl⟩⟩)⟩
    | exact⟨hh.1,RoundIn.mono hh.2 (fun e Ux he=>by cases e<;>first | exact⟨he,.inr ⟨_,rfl⟩⟩ | exact he)⟩
    | exact hh
 | halt x w'=>cases x<;>simp only [Oper.uponIn]at hh ⊢ <;>exact hh
theorem Oper.Gw{F:Fence}{n:Nat}{o:Oper}{K K':Act→World→Prop}{Q Q':Exit→Act→World→Prop}(h: ∀a w,K a w→K' a w)(hq: ∀c a w,¬Q (.panic c) a w)(ho: ¬LetsOut Q)
  (hh:o.wpIn F n P a w K Q):o.wpIn F n P a w K' Q':=by
 unfold Oper.wpIn at*;refine⟨hh.1,?_⟩;have hh:=hh.2;generalize (o.semAt F.round a.eval).run P w=r at*;cases r with
 | ok x w'=>
  cases x<;>simp only [Oper.uponIn]at hh ⊢ <;>
   first
    | exact h _ _ hh
    | exact⟨hh.1,CallsIn.mono hh.2 (fun e Ux he=>by cases e<;>first | exact h _ _ he | exact absurd he (hq _ _ _) | exact absurd he ho)⟩
    | exact⟨hh.1,RowsIn.mono hh.2 (fun _ _ he=>h _ _ he)⟩
    | exact⟨hh.1,RoundIn.mono hh.2 (fun e Ux he=>by cases e<;>first | exact h _ _ he | exact absurd he (hq _ _ _) | exact absurd he ho)⟩
 | halt x w'=>cases x<;>simp only [Oper.uponIn]at hh ⊢ <;>first | exact absurd hh (hq _ _ _) | exact hh
theorem JP{c:cG}{hp kM:List Ck}{rd:List Nat}{ρ bE:Env}(h:kept c hp kM rd=true)(dQ:ft c ρ bE){j:Nat}(hj:j∈rd){a:Ck}(ha:hp[j]? =some a):
  ∃b,kM[j]? =some b∧b.den bE=a.den ρ:=by
 have h1:=adt.1 h j hj;simp only [ha]at h1;split at h1
 ·rename_i x b hx hb;cases hx;split at h1
  ·rename_i l hl;refine⟨b,hb,(qH dQ.va hl fun y hy=>qF dQ (adt.1 h1 y hy)).symm⟩
  ·cases h1
 ·rename_i hx;cases hx
 ·cases h1
theorem DI.effect{n:Nat}(KV:rm P C ax Fs w0 n){k:List KI}(fh:BZ ρ k ro)(h:DI P Fs w0 all ro nt a0 aR a w rest done log st ρ W)(sB:j1 all pm=true)(Ay:xZ all pm=true){e:Nat}{o:Oper}(he:all[e]? =some o)(her:e∈rest)
  (rJ:jq aR e=false) (nT: ∀x∈o.after,aeg .any x=true→jq aR x.on=true) (vV:pj st o.dst=true) {L:Nat→LC}
  (hv:VC P ax (run C n (.ops all [o]:: .LS all pm e rest done log st.fn st.nt st.fr st.hp st.aX::k) {st with fr:=restrict st.fr (slotsOf all o)}) ρ L) (Q:Exit→Act→World→Prop) (K:Act→World→Prop)
  (hK: ∀a' w',(∃m,m<n∧∃rest done log st bE L' W,VC P ax (run C m (.rl all pm rest done log::k) st) bE L'∧Env.Le ρ bE∧(∀j,j<nl k→L' j=L j)∧DI P Fs w0 all ro nt a0 (aR.setIfInBounds e true) a' w' rest done log st bE W)→K a' w'):
  wpOpIn (FW ro) 0 P all Q e K a w:=by
 have Xv:e ∉ W.map (·.1):=((h.rest e).1 her).2;have hel:e<aR.size:=by rw [h.Pa];exact(adD.1 he).1
 have Pd:a.defers=(lD a0 W).defers:=by rw [h.act,jZ,jZ]
 have eL:nt.n≤a.tmps.size:=by rw [h.act,m6,←m6 W];exact h.ha.size
 have ha:HA (restrict st.fr (slotsOf all o)) nt ρ a:=by
  refine uX h.ha (fun s hs=>?_) Pd eL;rw [h.act];have:=uY (a0:=a0) (aR:=aR) (W1:=W) (tail:=[]) (s:=s) (fun y hy HZ=>h.before sB Ay he nT (tail:=[]) (by simp) Xv (.inl hs) y hy HZ) (fun y hy=>by cases hy)
  rwa [List.append_nil]at this
 have hw:HW Fs w0 {st with fr:=restrict st.fr (slotsOf all o)} ρ w:=
  ⟨h.hw.lens,adt.2 fun x hx=>adt.1 h.hw.j9 x (adU.1 hx).1,h.hw.fy,h.hw.mH,h.hw.kn,h.hw.own,h.hw.same,h.hw.kP⟩
 have Q4:=KV ro all [o] _ _ ρ L a w hv hw (by rw [show({st with fr:=restrict st.fr (slotsOf all o)}:St).nt=st.nt from rfl,h.BX];exact ha) (fh.push rfl);have fin: ∀a' w',QK P C ax Fs w0 n (.LS all pm e rest done log st.fn st.nt st.fr st.hp st.aX::k) ρ L .normal a' w'→(a'.defers≠a.defers∨∃u,a'=a.put o.dst u)→K a' w':=by
  intro a' w' hq ns;obtain⟨k',hk,m,hm,cT,bE,L',g1,g2,g3,g4,g5⟩:=hq;cases hk;cases m with
  | zero=>exact g5.elim
  | succ m=>
   simp only [run,he]at g5;split at g5
   case isFalse=>exact g5.elim
   rename_i Pe;rw [ai,beq_iff_eq]at Pe;obtain⟨Pe,zE⟩:=Pe;obtain⟨u,rfl⟩: ∃u,a'=a.put o.dst u:=by
    rcases ns with ns | ns
    ·rw [g4.defers,Pd,h.ha.defers,zE,h.BX]at ns;exact absurd (sD (Env.Le.agree h.hw.lens g1) (by rw [←h.BX];exact h.hw.kP)).symm ns
    ·exact ns
   split at g5
   case h_2=>exact g5.elim
   rename_i v qt;have dQ:=Env.Le.agree h.hw.lens g1;have dF:=fg.le h.hw.lens g3.lens g1;have An:v.sc cT.aX=true:=by
    cases hd:o.dst with
    | none=>rw [hd]at qt;simp only [adv]at qt;subst qt;rfl
    | some d=>rw [hd]at qt;exact BW g3.j9 qt
   have H2:HW Fs w0 (eT cT st.fn st.nt st.fr) bE w':=⟨g3.lens,cq dF h.hw.j9,g3.fy,g3.mH,g3.kn,g3.own,g3.same,cP dF h.hw.kP⟩;have Tt:=dG (eT cT st.fn st.nt st.fr) o.dst v;have tT: ∀j,jq (aR.setIfInBounds e true) j=(decide (e=j)||jq aR j):=fun j=>wB hel
   refine hK _ _ ⟨m,by omega,_,_,_,_,bE,L',W++[(e,o.dst,u)],g5,g1,g2,?_⟩;refine⟨H2.put An,by rw [Tt.2.2.2.1];exact h.BX,?_,?_,?_,?_,?_,?_,by simp [h.Pa],?_,?_,?_⟩
   ·have f1:W.filter (fun y=>jq (aR.setIfInBounds e true) y.1)=W.filter (fun y=>jq aR y.1):=List.filter_congr fun y hy=>by
     have:e≠y.1:=fun ee=>Xv (by rw [ee];exact List.mem_map.2 ⟨y,hy,rfl⟩)
     rw [tT];simp [this]
    rw [List.filter_append,f1,List.filter_cons_of_pos (by rw [tT];simp),List.filter_nil,iz,sx,←h.act]
   ·rw [iz,sx];have Zr:=h.ha.more h.hw.j9 (by rw [←h.BX];exact h.hw.kP) dQ;cases hd:o.dst with
    | none=>exact Zr
    | some d=>
     have Zs:d<nt.n:=by rw [←h.BX];exact sC vV d hd
     refine HA.put Zr (fun x hx=>by cases hx;exact Zs) ?_ _ rfl;rw [hd]at qt;have:=g4.aV d v qt;rw [hd,xY a d u (adI Zs eL)]at this;exact this
   ·rw [List.map_append,List.nodup_append];exact⟨h.nd,by simp,fun x hx y hy=>by
     simp only [adT,List.map_nil,aea]at hy;subst hy;intro UD;subst UD;exact Xv hx⟩
   ·intro j;rw [uZ,Bool.or_eq_true,h.done,List.map_append,List.mem_append];simp only [decide_eq_true_eq,adT,List.map_nil,aea];exact⟨fun hj=>hj.imp id Eq.symm,fun hj=>hj.imp id Eq.symm⟩
   ·intro j;rw [adU,h.rest,List.map_append,List.mem_append];simp only [bne_iff_ne,ne_eq,adT,List.map_nil,aea,not_or,and_assoc]
   ·intro j hj;rw [List.map_append,List.mem_append];rw [tT,Bool.or_eq_true]at hj;rcases hj with hj | hj
    ·right;rw [←of_decide_eq_true hj];simp
    ·exact .inl (h.sub j hj)
   ·intro p op hop hp x hx hb;rw [tT,Bool.or_eq_true]at hp ⊢;rcases hp with hp | hp
    ·have:=of_decide_eq_true hp;subst this;rw [he]at hop;cases hop;exact .inr (nT x hx hb)
    ·exact .inr (h.Tx p op hop hp x hx hb)
   ·intro W1 x W2 hW;rcases nU hW with⟨rfl,rfl,rfl⟩ | ⟨JM,rfl,OL⟩
    ·exact⟨o,he,rfl,fun x hx hb=>h.sub _ (nT x hx hb)⟩
    ·exact h.Pb W1 x JM OL
   ·intro W1 x W2 hW Gv;rcases nU hW with⟨rfl,rfl,rfl⟩ | ⟨JM,rfl,OL⟩
    ·rw [tT]at Gv;simp at Gv
    ·rw [tT,Bool.or_eq_false_iff]at Gv;obtain⟨o',rd,hp,qc,h1,h2,h3,h4⟩:=h.Pc W1 x JM OL Gv.2;refine⟨o',rd,hp,qc,h1,h2,h3,fun j hj ck KU=>?_⟩;obtain⟨O9,Si,ye⟩:=h4 j hj ck KU;have hx:=adt.1 Pe _ h2;simp only [Bool.or_eq_true]at hx;rcases hx with hx | hx
     ·have hxl:x.1<all.size:=(adD.1 h1).1;have:=sA Ay (fun q=>jq aR q=true) h.Tx he nT hxl hx;rw [Gv.2]at this;cases this
     ·obtain⟨b,hb,hbd⟩:=JP hx dQ hj Si;exact⟨b,by rw [Tt.1];exact hb,by rw [hbd,ye]⟩
 unfold wpOpIn;simp only [he];unfold wpListIn at Q4;split
 ·rename_i ll;rw [if_pos ll]at Q4;refine Oper.Gw (fun a' w' hh=>fin a' w' hh.1 hh.2) (fun c a' w' hq=>?_) (fun hq=>?_) (Oper.LR Q4)
  ·obtain⟨k',hk,_⟩:=hq;cases hk
  ·obtain⟨_,_,k',hk,_⟩:=hq;cases hk
 ·rename_i ll;rw [if_neg ll]at Q4;exact⟨Q4.1,fin _ _ Q4.2 (.inr ⟨undef,rfl⟩)⟩
theorem DI.descend(hT:bC P C.T=true){k:List KI}{L:Nat→LC}: ∀{m:Nat} {rest:List Nat} {done:Nat} {log:List (Nat×List Nat)} {st:St} {W:List Wr},
  VC P ax (run C m (.rl all pm rest done log::k) st) ρ L→DI P Fs w0 all ro nt a0 aR a w rest done log st ρ W→
  ∃m',m'≤m∧∃rest done log st W,VC P ax (run C m' (.rl all pm rest done log::k) st) ρ L∧DI P Fs w0 all ro nt a0 aR a w rest done log st ρ W∧
   (rest=[]∨(rest.find? fun i=>B7 all i&&ln all done i)=none)
 | 0,rest,done,log,st,W,hv,_=>hv.elim
 | m+1,[],done,log,st,W,hv,h=>⟨m+1,Nat.le_refl _,[],done,log,st,W,hv,h,.inl rfl⟩
 | m+1,x::r,done,log,st,W,hv,h=>by
  cases hf:(x::r).find? fun i=>B7 all i&&ln all done i with
  | none=>exact⟨m+1,Nat.le_refl _,x::r,done,log,st,W,hv,h,.inr hf⟩
  | some i=>
   have Gx:=List.mem_of_find?_eq_some hf;have gK:=List.find?_some hf;simp only [ai]at gK;simp only [run,hf]at hv;split at hv
   case h_2=>exact hv.elim
   rename_i o ho;split at hv
   case isFalse=>exact hv.elim
   rename_i vV;split at hv
   ·exact hv.elim
   ·rename_i g hg;split at hv
    case isFalse=>exact hv.elim
    rename_i Xt;split at hv
    case h_2=>exact hv.elim
    rename_i res Ef;split at hv
    case h_2=>exact hv.elim
    rename_i Pf;obtain⟨bV,hv⟩:=gE h.hw.kn hv;obtain⟨m',Ty,q⟩:=DI.descend hT hv (h.quiet hT Gx gK.2 ho vV hg Xt Ef Pf bV);exact⟨m',by omega,q⟩
def Q5(all:Array Oper)(aR:Array Bool):Nat:=(List.range all.size).countP fun i=> !jq aR i
theorem Pg(hl:aR.size=all.size){i:Nat}(hi:i<all.size)(hn:jq aR i=false):Q5 all (aR.setIfInBounds i true)+1≤Q5 all aR:=by
 unfold Q5;have key: ∀(l:List Nat),l.Nodup→i∈l→l.countP (fun j=> !jq (aR.setIfInBounds i true) j)+1≤l.countP (fun j=> !jq aR j):=by
  intro l
  induction l with
  | nil=>intro _ h;cases h
  | cons x r ih=>
   intro fQ hm;rw [List.nodup_cons]at fQ;rw [List.countP_cons,List.countP_cons,wB (by omega)];by_cases hx:i=x
   ·subst hx;have:r.countP (fun j=> !jq (aR.setIfInBounds i true) j)=r.countP (fun j=> !jq aR j):=List.countP_congr fun j hj=>by
     have:i≠j:=fun e=>fQ.1 (e▸hj)
     rw [wB (by omega)];simp [this]
    rw [this];simp [hn]
   ·have Ty:i∈r:=(adW.1 hm).resolve_left hx;have:=ih fQ.2 Ty;simp only [hx,decide_false,Bool.false_or];omega
 exact key _ List.nodup_range (adZ.2 hi)
theorem LU(h:Q5 all aR=0): ∀i,i<all.size→jq aR i=true:=by
 intro i hi;unfold Q5 at h;rw [List.countP_eq_zero]at h;have:=h i (adZ.2 hi);simpa using this
theorem DI.JQ(h:DI P Fs w0 all ro nt a0 aR a w rest done log st ρ W)(Ay:xZ all pm=true)(hr:Region.ready .any all aR=[]): ∀i,i<all.size→jq aR i=true:=by
 intro i
 induction i using Nat.strongRecOn with
 | _ i ih=>
  intro hi;cases hl:jq aR i with
  | true=>rfl
  | false=>
   have Zt:all[i]? =some all[i]:=Array.getElem?_eq_getElem hi;have:i∈Region.ready .any all aR:=by
    rw [mem_ready];refine⟨?_,_,Zt,fun e he hb=>?_⟩
    ·have Da:i<aR.size:=by rw [h.Pa];exact hi
     unfold jq at hl;rw [adS,Array.getElem?_eq_getElem Da]at hl ⊢;exact hl
    ·have:=(tO Ay Zt).1 e he hb;exact ih e.on this (by omega)
   rw [hr]at this;cases this
theorem H3{aR:Array Bool}{a:Act}{w:World}{m:Nat}{n:Nat}{rest:List Nat}{done:Nat}{log:List (Nat×List Nat)}{st:St}{ρ:Env}{W:List Wr}{k:List KI}{L:Nat→LC}{HX:Env}{Lb:Nat→LC}
  (tC: ∀i,i<all.size→jq aR i=true) (hm:m≤n) (hv:VC P ax (run C m (.rl all pm rest done log::k) st) ρ L) (hle:Env.Le HX ρ) (hL: ∀j,j<nl k→L j=Lb j)
  (h:DI P Fs w0 all ro nt a0 aR a w rest done log st ρ W):QK P C ax Fs w0 n k HX Lb .normal a w:=by
 have Tz:rest=[]:=by
  cases hr:rest with
  | nil=>rfl
  | cons x r=>
   have:=(h.rest x).1 (by rw [hr];exact ady);exact absurd (h.sub x (tC x this.1)) this.2
 subst Tz;cases m with
 | zero=>exact hv.elim
 | succ m=>
  simp only [run]at hv;have hW:W.filter (fun x=>jq aR x.1)=W:=by
   rw [List.filter_eq_self];intro x hx;obtain⟨A,B,hAB⟩:=List.append_of_mem hx;obtain⟨o,ho,_⟩:=h.Pb A x B hAB;exact tC x.1 (adD.1 ho).1
  have UE:=h.act;rw [hW]at UE;refine⟨k,rfl,m,by omega,st,ρ,L,hle,hL,h.hw,?_,hv⟩;rw [UE,h.BX];exact h.ha
theorem Az{ρ:Env}{L:Nat→LC}: ∀{l:List F},VC P ax (LV l) ρ L→∀x∈l,VC P ax x ρ L
 | [],h,_,_=>h.elim
 | [x],h,y,hy=>by
  rw [aea]at hy;exact hy▸h
 | x::y::r,h,z,hz=>by
  rcases adW.1 hz with rfl | hz
  ·exact h.1
  ·exact Az h.2 z hz
theorem LW(hT:bC P C.T=true){n:Nat}(KV: ∀m,m<n→rm P C ax Fs w0 m)(sB:j1 all pm=true)(Ay:xZ all pm=true){k:List KI}{HX:Env}{Lb:Nat→LC}(fh:BZ HX k ro):
  ∀(fuel:Nat) (aR:Array Bool) (a:Act) (w:World),Q5 all aR≤fuel→
   (∃m,m≤n∧∃rest done log st ρ L W,VC P ax (run C m (.rl all pm rest done log::k) st) ρ L∧Env.Le HX ρ∧(∀j,j<nl k→L j=Lb j)∧DI P Fs w0 all ro nt a0 aR a w rest done log st ρ W)→
   wpAnyIn (FW ro) 0 P .any all (QK P C ax Fs w0 n k HX Lb) fuel aR a w:=by
 intro fuel
 induction fuel with
 | zero=>
  intro aR a w hf ⟨m,hm,rest,done,log,st,ρ,L,W,hv,hle,hL,h⟩;have tC:=LU (Nat.le_zero.1 hf);refine⟨?_,?_⟩
  ·cases hr:Region.ready .any all aR with
   | nil=>rfl
   | cons i r=>
    have:i∈Region.ready .any all aR:=by rw [hr];exact ady
    rw [mem_ready]at this;obtain⟨h0,o,ho,_⟩:=this;have hi:i<all.size:=(adD.1 ho).1;have hl:=tC i hi;unfold jq at hl;have Da:i<aR.size:=by rw [h.Pa];exact hi
    rw [adS,Array.getElem?_eq_getElem Da]at hl h0;simp at hl h0;rw [hl]at h0;cases h0
  ·exact H3 tC hm hv hle hL h
 | succ fuel ih=>
  intro aR a w hf ⟨m,hm,rest,done,log,st,ρ,L,W,hv,hle,hL,h⟩;refine⟨fun hr=>H3 (h.JQ Ay hr) hm hv hle hL h,fun i hi=>?_⟩;rw [mem_ready]at hi;obtain⟨h0,o,ho,zC⟩:=hi;have Da:i<all.size:=(adD.1 ho).1;have rJ:jq aR i=false:=by
   have:i<aR.size:=by rw [h.Pa];exact Da
   unfold jq;rw [adS,Array.getElem?_eq_getElem this]at h0 ⊢;exact h0
  have UF:Q5 all (aR.setIfInBounds i true)≤fuel:=by
   have:=Pg h.Pa Da rJ;omega
  obtain⟨m',Ty,LX,LY,Xw,cT,W',qt,h',Ph⟩:=DI.descend hT hv h;by_cases Q3:i∈W'.map (·.1)
  ·exact h'.pending sB Ay ho rJ zC Q3 _ _ fun a' hD=>ih _ _ _ UF ⟨m',by omega,LX,LY,Xw,cT,ρ,L,W',qt,hle,hL,hD⟩
  ·have Sg:i∈LX:=(h'.rest i).2 ⟨Da,Q3⟩;have cJ:ln all LY i=true:=JN ho fun e he hb=>(h'.done _).2 (h'.sub _ (zC e he hb))
   rcases Ph with rfl | Ph
   ·cases Sg
   ·cases m' with
    | zero=>exact qt.elim
    | succ m'=>
     cases Tz:LX with
     | nil=>rw [Tz]at Sg;cases Sg
     | cons x r=>
      rw [Tz]at qt Ph;simp only [run,Ph]at qt;have hiL:i∈(x::r).filter (ln all LY):=adU.2 ⟨Tz▸Sg,cJ⟩;have qt:=Az qt _ (List.mem_map.2 ⟨i,hiL,rfl⟩);simp only [ho]at qt;split at qt
      case isFalse=>exact qt.elim
      rename_i vV;rw [←Tz]at qt;refine DI.effect (KV m' (by omega)) (fh.le hle) h' sB Ay ho Sg rJ zC vV qt _ _ fun a' w' hq=>ih _ _ _ UF ?_
      obtain⟨m2,LZ,UG,UH,log2,Eg,H4,L2,W2,q1,q2,q3,q4⟩:=hq;exact⟨m2,by omega,UG,UH,log2,Eg,H4,L2,W2,q1,hle.trans q2,fun j hj=>(q3 j hj).trans (hL j hj),q4⟩
theorem HW.drew(h:HW Fs w0 st ρ w)(d:Nat):HW Fs w0 st ρ {w with drawn:=d}:=by
 refine⟨h.lens,h.j9,h.fy,h.mH,h.kn,?_,h.same.trans ⟨rfl,rfl,rfl,Nat.le_refl _⟩,h.kP⟩;obtain⟨S,hS⟩:=h.own;exact⟨S,hS.keep (Nat.le_refl _) fun _ _=>rfl⟩
theorem Eh(hT:bC P C.T=true)(hm:P.follows .mixedOrders=true){n:Nat}(KV: ∀m,m<n→rm P C ax Fs w0 m):Gy P C ax Fs w0 n:=by
 intro ro id all pm k st ρ L a w hv sB Ay hw ha fh;refine wpIn_region_any hm (LW (ro:=ro) (nt:=st.nt) (a0:=a) hT KV sB Ay fh _ _ _ _ ?_ ⟨n,Nat.le_refl _,_,_,_,_,ρ,L,[],hv,Env.Le.refl _,fun _ _=>rfl,?_⟩)
 ·unfold Q5;exact Nat.le_trans List.countP_le_length (by simp)
 ·have Pj: ∀i,jq (Array.replicate all.size false) i=false:=by
   intro i;unfold jq;rw [adS];by_cases hi:i<all.size
   ·simp [hi]
   ·rw [Array.getElem?_eq_none (by simpa using hi)];rfl
  refine⟨hw.drew _,rfl,rfl,ha,List.nodup_nil,fun i=>by simp,fun i=>by simp,fun i hi=>?_,by simp,fun p o _ hp=>?_,fun W1 x W2 hW=>?_,fun W1 x W2 hW=>?_⟩
  ·rw [Pj]at hi;cases hi
  ·rw [Pj]at hp;cases hp
  ·simp at hW
  ·simp at hW
end
section
variable {P:Program} {C:Ctx} {ax:Value→List HP→Prop} {Fs:List HP} {w0:World}
theorem AA(hT:bC P C.T=true){n N:Nat}(hnN:n<N)(u7: ∀m,m<N→pk P C ax Fs w0 m){ro:Option Nat}{c:Code}{fd:Func}{f:Nat}(hf:P.funcs[f]? =some fd)(hb:fd.body=some c){k:List KI}{st:St}{ρ HX:Env}{L Lb:Nat→LC}{w:World}
  {az:List SV} {l r fn:Nat} {nt:NT} {fr:List (Nat×SV)} {ps:Array Tmp} {x y:Code} {a':Act}
  (hv:VC P ax (run C n (.code c:: .rf l r fn nt fr ps x y fd::k) (eT st f ⟨fd.ntmps,[]⟩ (dM 0 az))) ρ L) (iA:SV.oE st.aX az=true) (hw:HW Fs w0 st ρ w)
  (fh:BZ ρ (.rf l r fn nt fr ps x y fd::k) none) (Q6:BZ ρ k ro) (QV:kF st.aX fr=true) (KW:nt.ds.all (MK.sc st.aX)=true) (ha:HA fr nt ρ a') (hle:Env.Le HX ρ) (hL: ∀j,j<nl k→L j=Lb j) (hl:l<st.aX.b):
  CallsIn (FW none) 0 P f (SV.vals ρ az).toArray w (rangePost (FW ro) 0 P (ρ.bv.getD l 0) (QK P C ax Fs w0 N k HX Lb) a'):=by
 refine callsIn_of_wp_marks hf hb trivial ?_ rfl;have UI:HW Fs w0 (eT st f ⟨fd.ntmps,[]⟩ (dM 0 az)) ρ w:=⟨hw.lens,wC az 0 iA,hw.fy,hw.mH,hw.kn,hw.own,hw.same,rfl⟩;refine wpIn_mono (u7 n hnN none c _ _ ρ L _ w hv UI (yg az fd.ntmps) fh) ?_;have key: ∀a1 w1,At P C ax Fs w0 n (.rf l r fn nt fr ps x y fd::k) ρ L a1 w1→LeavesInM (FW none) 0 P fd a1.tmps (rangePost (FW ro) 0 P (ρ.bv.getD l 0) (QK P C ax Fs w0 N k HX Lb) a') a1.defers .returning w1:=by
  intro a1 w1 ⟨m,hm,cT,bE,L',h1,h2,h3,h4,h5⟩;cases m with
  | zero=>exact h5.elim
  | succ m=>
   simp only [run]at h5;split at h5
   case h_2=>exact h5.elim
   rename_i Eg H5;have L0:Eg.fr=cT.fr∧Eg.nt=cT.nt∧Eg.aX=cT.aX:=by
    unfold lR at H5;rw [adw]at H5;obtain⟨kM,_,rfl⟩:=H5;exact⟨rfl,rfl,rfl⟩
   split at h5
   case h_2=>exact h5.elim
   rename_i v i r' s j hv Gz;split at h5
   ·exact h5.elim
   ·rename_i UJ;refine my H5 h3 h4 fun w2 Ei=>?_
    refine⟨_,nV hT Ei (nt:=cT.nt) (by rw [L0.1];exact h4) hv,?_⟩;have kf:=kQ Ei Gz;have UK:bE.bv.getD l 0=ρ.bv.getD l 0:=((Env.Le.agree hw.lens h1).b l hl).symm;rw [UK]at kf;refine⟨j.code,_,run_endLoop kf (by cases s<;>first | (simp [RS.st];done) | exact absurd rfl UJ),?_⟩;have H2:=B8 Ei Gz .exhausted j;rw [UK]at H2;have dF:=fg.le hw.lens Ei.lens h1;have L4:HW Fs w0 (eT {Eg with hp:=Eg.hp.set i (.kg l r' .exhausted j)} fn nt fr) bE _:=⟨H2.lens,cq dF QV,H2.fy,H2.mH,H2.kn,H2.own,H2.same,cP dF KW⟩;have Xx:HA fr nt bE a':=ha.more QV KW (Env.Le.agree hw.lens h1);have R2: ∀q,q<nl k→L' q=Lb q:=fun q hq=>(h2 q hq).trans (hL q hq)
    cases j with
    | none=>
     exact⟨k,rfl,m,by omega,_,bE,L',hle.trans h1,R2,L4,Xx,h5⟩
    | ret=>
     exact wpIn_mono (u7 m (by omega) ro .ret k _ bE L' a' _ h5 L4 Xx (Q6.le h1)) fun e a w hq=>hq.mono (by omega) (hle.trans h1) R2
    | exit id=>
     exact wpIn_mono (u7 m (by omega) ro (.exit id) k _ bE L' a' _ h5 L4 Xx (Q6.le h1)) fun e a w hq=>hq.mono (by omega) (hle.trans h1) R2
 intro e a1 w1 hq;obtain⟨k',hk,dD⟩:=hq;cases e with
 | normal=>cases hk;exact key a1 w1 dD
 | ret=>cases hk;exact key a1 w1 dD
 | exit id=>cases hk
 | goto l=>cases hk
 | panic l=>cases hk
 | outgrown=>cases hk
theorem JR{ρ:Env}{c:cG}(h:fg ρ c)(l:Nat)(q:Loop):fg (ρ.ext ⟨[l],[],[],[],[],[],[q]⟩) {c with b:=c.b+1,r:=c.r+1}:=
 ⟨by simp [Env.ext,h.b],by simp [Env.ext,h.v],by simp [Env.ext,h.i],by simp [Env.ext,h.a],by simp [Env.ext,h.bo],by simp [Env.ext,h.p],by simp [Env.ext,h.r]⟩
theorem JS{ρ:Env}{c:cG}(h:fg ρ c)(d l:Nat)(q:Loop):fg (ρ.ext ⟨[d,l],[],[],[],[],[],[q]⟩) {c with b:=c.b+2,r:=c.r+1}:=
 ⟨by simp [Env.ext,h.b],by simp [Env.ext,h.v],by simp [Env.ext,h.i],by simp [Env.ext,h.a],by simp [Env.ext,h.bo],by simp [Env.ext,h.p],by simp [Env.ext,h.r]⟩
theorem rn(w:World)(o:Obj):fE w (w.alloc o):=⟨rfl,rfl,rfl,by simp⟩
theorem Ej(hT:bC P C.T=true)(AB:bL P C.FT){n:Nat}(u7: ∀m,m<n→pk P C ax Fs w0 m):L5 P C ax Fs w0 n:=by
 intro ro g ps x y k st ρ L a w hv hw ha fh;cases n with
 | zero=>exact hv.elim
 | succ n=>
  have hn:n<n+1:=Nat.lt_succ_self n;simp only [run]at hv;split at hv
  case h_2=>exact hv.elim
  rename_i f caps hg;have hev:=ej ha.eval hg;split at hv
  ·exact hv.elim
  rename_i fd yh;have Gx:=List.mem_of_find?_eq_some yh;have Gi:=List.find?_some yh;simp only [beq_iff_eq]at Gi;obtain⟨hf,Ek⟩:=AB _ Gx;simp only at hf Ek;rw [Gi]at hf;split at hv
  ·exact hv.elim
  rename_i c hb;split at hv
  case isFalse=>exact hv.elim
  rename_i H6;have Sj: ¬fd.name= "runtime.NumGoroutine" :=by simpa using Ek
  have Ef: ∀(l:Nat) (w1:World),(resolve a.eval (rangeCall g l) 0).run P w1= .ok {target:= .fn (.func f) (SV.vals ρ caps).toArray,args:= #[.func (.yield l) #[] #[]]} w1:=by
   intro l w1;simp only [resolve,hev,SV.val,Deferred.ofValue];simp [Act.eval]
  have hinv: ∀(l:Nat) (w1:World),(invoke (.fn (.func f) (SV.vals ρ caps).toArray) #[.func (.yield l) #[] #[]]).run P w1= .ok (.enter f (#[.func (.yield l) #[] #[]]++(SV.vals ρ caps).toArray)) w1:=by
   intro l w1;simp [invoke,callFunc,hf,Sj,hb]
  have JT:=fh.ro;split at hv
  ·
   rename_i Xy;rw [Xy]at JT;simp only at JT;subst JT;refine wpIn_rangeFunc fun fn _=>?_
   have e1:=run_enterLoop_outer (P:=P) (w:=w) fn a.tmps ps x y;refine⟨_,_,_,_,_,f,_,_,e1,Ef _ _,fun _ _=>trivial,hinv _ _,fun h=>(by cases h),?_⟩;simp only [VC]at hv;have uU:=hv w.heap.size (w.heap.size+1) {state:= .ready,pending:=none,fn,tmps:=a.tmps,params:=ps,assign:=x,body:=y,defers:=w.heap.size};generalize hq:({state:= .ready,pending:=none,fn,tmps:=a.tmps,params:=ps,assign:=x,body:=y,defers:=w.heap.size}:Loop)=q at uU e1 ⊢;have hle:=Env.fG ρ ⟨[w.heap.size,w.heap.size+1],[],[],[],[],[],[q]⟩;have dQ:=Env.Le.agree hw.lens hle;have hl:=JS hw.lens w.heap.size (w.heap.size+1) q;have dF:=fg.le hw.lens hl hle;have b1:(ρ.ext ⟨[w.heap.size,w.heap.size+1],[],[],[],[],[],[q]⟩).bv.getD st.aX.b 0=w.heap.size:=by simp [Env.ext,←hw.lens.b]
   have b2:(ρ.ext ⟨[w.heap.size,w.heap.size+1],[],[],[],[],[],[q]⟩).bv.getD (st.aX.b+1) 0=w.heap.size+1:=by simp [Env.ext,←hw.lens.b]
   have b3:(ρ.ext ⟨[w.heap.size,w.heap.size+1],[],[],[],[],[],[q]⟩).lr.getD st.aX.r gJ=q:=by simp [Env.ext,←hw.lens.r]
   have B9:({q with state:=RS.ready.st,pending:=Jump.none.code}:Loop)=q:=by subst hq;rfl
   have N9:q.params=ps:=by subst hq;rfl
   have Xz:q.assign=x:=by subst hq;rfl
   have Wp:q.body=y:=by subst hq;rfl
   have XA:q.tmps=a.tmps:=by subst hq;rfl
   clear hq;generalize XB:ρ.ext ⟨[w.heap.size,w.heap.size+1],[],[],[],[],[],[q]⟩=qc at uU hle dQ hl b1 b2 b3;have UL:bG ((st.hp.map (Ck.den qc)++[xj w.heap.size])++Fs) (w.alloc (.deferred (some []))):=by
    refine bG.add (by rw [←jA dQ hw.fy];exact hw.own) _ (fun k=>k=w.heap.size) (by simp) (fun k hk=>heap_alloc_old w _ hk) ⟨fun _=>Iff.rfl,heap_alloc_new w _⟩ (fun k hk=>by simp;omega)
   have L6:bG (((st.hp.map (Ck.den qc)++[xj w.heap.size])++[Lq (w.heap.size+1) q])++Fs) ((w.alloc (.deferred (some []))).alloc (.loop q)):=by
    have eL:(w.alloc (.deferred (some []))).heap.size=w.heap.size+1:=by simp
    refine bG.add UL _ (fun k=>k=w.heap.size+1) (by simp) (fun k hk=>heap_alloc_old _ _ hk) ⟨fun _=>Iff.rfl,?_⟩ (fun k hk=>by simp;omega);have:=heap_alloc_new (w.alloc (.deferred (some []))) (.loop q)
    rwa [eL]at this
   have wv:HW Fs w0 {st with hp:=st.hp++[.JH st.aX.b]++[.kg (st.aX.b+1) st.aX.r .ready .none],aX:={st.aX with b:=st.aX.b+2,r:=st.aX.r+1}} qc ((w.alloc (.deferred (some []))).alloc (.loop q)):=by
    refine⟨hl,cq dF hw.j9,?_,er dF hw.mH,fun b hb=>(BE.fL dQ (adt.1 hw.mH b hb)).1 (hw.kn b hb),?_,(hw.same.trans (rn _ _)).trans (rn _ _),cP dF hw.kP⟩
    ·simp only [List.all_append,ai,List.all_cons,List.all_nil,Ck.sc,adK];exact⟨⟨g9 dF hw.fy,by omega,trivial⟩,⟨by omega,by omega⟩,trivial⟩
    ·simp only [List.map_append,adT,List.map_nil,Ck.den,b1,b2,b3,B9];exact L6
   have L7:kF {st.aX with b:=st.aX.b+2,r:=st.aX.r+1} st.fr=true:=cq dF hw.j9;have XC:(MK.one st.aX.b::st.nt.ds).all (MK.sc {st.aX with b:=st.aX.b+2,r:=st.aX.r+1})=true:=by
    rw [List.all_cons,ai,MK.sc,adK];exact⟨by show st.aX.b<st.aX.b+2;omega,cP dF hw.kP⟩
   have GC:=ha.more hw.j9 hw.kP dQ;have El:BZ qc (.rf (st.aX.b+1) st.aX.r st.fn ⟨st.nt.n,.one st.aX.b::st.nt.ds⟩ st.fr ps x y fd::k) none:=by
    refine⟨fun l r fn nt fr Wq x' y' UM hm=>?_,rfl⟩;rcases adW.1 hm with hm | hm
    ·cases hm;refine⟨qc,_,hl,Env.Le.refl _,L7,by simp,by rw [b3,N9],by rw [b3,Xz],by rw [b3,Wp],?_⟩;rw [b3,XA];exact⟨rfl,GC.size,GC.aV⟩
    ·exact(fh.le hle).rf l r fn nt fr Wq x' y' UM hm
   have po:=AA (Lb:=L) hT hn u7 hf hb (a':={a with defers:=[{target:= .collected w.heap.size,args:= #[]}]++a.defers}) uU
    (by simp only [SV.oE,SV.sc,ai,adK];exact⟨by omega,SV.ep dF H6⟩) wv El (fh.le hle) L7 XC
    ⟨by rw [ha.defers,sD dQ hw.kP];simp only [marks,List.flatMap_cons,MK.blocks,adT,b1,List.singleton_append],GC.size,GC.aV⟩ hle (fun _ _=>rfl) (by simp)
   rw [b2]at po;have jo:(SV.vals qc (.Jj (st.aX.b+1)::caps)).toArray= #[.func (.yield (w.heap.size+1)) #[] #[]]++(SV.vals ρ caps).toArray:=by
    simp only [SV.vals,SV.val,b2,(SV.ff dQ H6).1];simp
   rw [jo]at po;exact po
  ·
   rename_i l0 Xy;rw [Xy]at JT;simp only at JT;obtain⟨u_,c0,k1,k2,k3,k4⟩:=JT;rw [(Env.Le.agree k1 k2).b l0 k3]at k4;split at hv
   case h_2=>exact hv.elim
   rename_i rc Gz;obtain⟨i0,r0,s0,j0⟩:=rc;have kf:=kQ hw Gz;refine wpIn_rangeFunc fun fn _=>?_
   have e1:=run_enterLoop_inner (P:=P) (w:=w) kf fn a.tmps ps x y;rw [show(FW ro).round=ro from rfl,k4];refine⟨_,_,_,_,_,f,_,_,e1,Ef _ _,fun _ _=>trivial,hinv _ _,fun h=>(by cases h),?_⟩;simp only [VC]at hv;have uU:=hv w.heap.size {state:= .ready,pending:=none,fn,tmps:=a.tmps,params:=ps,assign:=x,body:=y,defers:=({ρ.lr.getD r0 gJ with state:=s0.st,pending:=j0.code}:Loop).defers};generalize hq:({state:= .ready,pending:=none,fn,tmps:=a.tmps,params:=ps,assign:=x,body:=y,defers:=({ρ.lr.getD r0 gJ with state:=s0.st,pending:=j0.code}:Loop).defers}:Loop)=q at uU e1 ⊢;have hle:=Env.fG ρ ⟨[w.heap.size],[],[],[],[],[],[q]⟩;have dQ:=Env.Le.agree hw.lens hle;have hl:=JR hw.lens w.heap.size q;have dF:=fg.le hw.lens hl hle;have b2:(ρ.ext ⟨[w.heap.size],[],[],[],[],[],[q]⟩).bv.getD st.aX.b 0=w.heap.size:=by simp [Env.ext,←hw.lens.b]
   have b3:(ρ.ext ⟨[w.heap.size],[],[],[],[],[],[q]⟩).lr.getD st.aX.r gJ=q:=by simp [Env.ext,←hw.lens.r]
   have B9:({q with state:=RS.ready.st,pending:=Jump.none.code}:Loop)=q:=by subst hq;rfl
   have N9:q.params=ps:=by subst hq;rfl
   have Xz:q.assign=x:=by subst hq;rfl
   have Wp:q.body=y:=by subst hq;rfl
   have XA:q.tmps=a.tmps:=by subst hq;rfl
   clear hq;generalize XB:ρ.ext ⟨[w.heap.size],[],[],[],[],[],[q]⟩=qc at uU hle dQ hl b2 b3;have L6:bG ((st.hp.map (Ck.den qc)++[Lq w.heap.size q])++Fs) (w.alloc (.loop q)):=by
    refine bG.add (by rw [←jA dQ hw.fy];exact hw.own) _ (fun k=>k=w.heap.size) (by simp) (fun k hk=>heap_alloc_old w _ hk) ⟨fun _=>Iff.rfl,heap_alloc_new w _⟩ (fun k hk=>by simp;omega)
   have wv:HW Fs w0 {st with hp:=st.hp++[.kg st.aX.b st.aX.r .ready .none],aX:={st.aX with b:=st.aX.b+1,r:=st.aX.r+1}} qc (w.alloc (.loop q)):=by
    refine⟨hl,cq dF hw.j9,?_,er dF hw.mH,fun b hb=>(BE.fL dQ (adt.1 hw.mH b hb)).1 (hw.kn b hb),?_,hw.same.trans (rn _ _),cP dF hw.kP⟩
    ·simp only [List.all_append,ai,List.all_cons,List.all_nil,Ck.sc,adK];exact⟨g9 dF hw.fy,⟨by omega,by omega⟩,trivial⟩
    ·simp only [List.map_append,adT,List.map_nil,Ck.den,b2,b3,B9];exact L6
   have L7:kF {st.aX with b:=st.aX.b+1,r:=st.aX.r+1} st.fr=true:=cq dF hw.j9;have GC:=ha.more hw.j9 hw.kP dQ;have El:BZ qc (.rf st.aX.b st.aX.r st.fn st.nt st.fr ps x y fd::k) none:=by
    refine⟨fun l r fn nt fr Wq x' y' UM hm=>?_,rfl⟩;rcases adW.1 hm with hm | hm
    ·cases hm;refine⟨qc,_,hl,Env.Le.refl _,L7,by simp,by rw [b3,N9],by rw [b3,Xz],by rw [b3,Wp],?_⟩;rw [b3,XA];exact⟨rfl,GC.size,GC.aV⟩
    ·exact(fh.le hle).rf l r fn nt fr Wq x' y' UM hm
   have po:=AA (Lb:=L) (ro:=ro) hT hn u7 hf hb (a':={a with defers:=[]++a.defers}) uU
    (by simp only [SV.oE,SV.sc,ai,adK];exact⟨by omega,SV.ep dF H6⟩) wv El (fh.le hle) L7 (cP dF hw.kP)
    ⟨GC.defers,GC.size,GC.aV⟩ hle (fun _ _=>rfl) (by simp)
   rw [b2]at po;have jo:(SV.vals qc (.Jj st.aX.b::caps)).toArray= #[.func (.yield w.heap.size) #[] #[]]++(SV.vals ρ caps).toArray:=by
    simp only [SV.vals,SV.val,b2,(SV.ff dQ H6).1];simp
   rw [jo]at po;rw [k4]at po;exact po
end
section
variable {P:Program} {C:Ctx} {ax:Value→List HP→Prop} {Fs:List HP} {w0:World}
theorem JU(hT:bC P C.T=true)(AB:bL P C.FT)(Em:fI P C)(hm:P.follows .mixedOrders=true)(n:Nat):pk P C ax Fs w0 n∧rm P C ax Fs w0 n∧Gy P C ax Fs w0 n:=by
 induction n using Nat.strongRecOn with
 | _ n ih=>exact⟨En hT (fun m hm=>(ih m hm).1) (fun m hm=>(ih m hm).2.1) (fun m hm=>(ih m hm).2.2) (Ej hT AB fun m hm=>(ih m hm).1),Eo hT AB Em (fun m hm=>(ih m hm).1) (fun m hm=>(ih m hm).2.1),Eh hT hm (fun m hm=>(ih m hm).2.1)⟩
theorem ar.L8(hT:bC P C.T=true)(AB:bL P C.FT)(hm:P.follows .mixedOrders=true){f:Nat}{fd:Func}(hf:P.funcs[f]? =some fd){args:List SV}{hp:List Ck}{aX:cG}{ρ:Env}(hl:fg ρ aX)
  (h:VC P ax (gS C f args hp aX fd) ρ fun _=>LC.none) (Em:fI P C:=by exact fI.none rfl):ar P f (SV.vals ρ args) (hp.map (Ck.den ρ)) ax:=by
 intro w Fs cr;unfold gS at h;split at h
 case h_2=>exact h.elim
 rename_i c hb;split at h
 case isFalse=>exact h.elim
 rename_i iA;simp only [ai]at iA;have hw:HW Fs w {fn:=f,fr:=dM 0 args,hp:=hp,aX:=aX,nt:=⟨fd.ntmps,[]⟩} ρ w:=
  ⟨hl,wC args 0 iA.1,iA.2,rfl,fun b hb=>(by cases hb),cr,fE.refl w,rfl⟩
 have Q4:=(JU (ax:=ax) (Fs:=Fs) (w0:=w) hT AB Em hm 100000).1 none c _ _ ρ _ _ w h hw (yg args fd.ntmps) ⟨fun l r fn nt fr ps x y fd hm=>(by simp at hm),rfl⟩;have key: ∀a' w',At P C ax Fs w 100000 [.top fd] ρ (fun _=>LC.none) a' w'→LeavesInM (FW none) 0 P fd a'.tmps (fun e w'=> ∃v hs,e= .returned v∧ax v hs∧bG (hs++Fs) w'∧fE w w') a'.defers .returning w':=by
  intro a' w' ⟨m,hm,cT,bE,L',h1,h2,h3,h4,h5⟩;cases m with
  | zero=>exact h5.elim
  | succ m=>
   simp only [run]at h5;split at h5
   case h_2=>exact h5.elim
   rename_i Eg H5;have L0:Eg.fr=cT.fr:=by
    unfold lR at H5;rw [adw]at H5;obtain⟨kM,_,rfl⟩:=H5;rfl
   split at h5
   ·rename_i v hv;refine my H5 h3 h4 fun w2 Ei=>?_
    exact⟨_,nV hT Ei (nt:=cT.nt) (by rw [L0];exact h4) hv,_,_,rfl,h5,Ei.own,Ei.same⟩
   ·exact h5.elim
 have fin: ∀e a' w',QK P C ax Fs w 100000 [.top fd] ρ (fun _=>LC.none) e a' w'→bodyPostM (FW none) 0 P fd (fun e w'=> ∃v hs,e= .returned v∧ax v hs∧bG (hs++Fs) w'∧fE w w') e a' w':=by
  intro e a' w' hq;obtain⟨k',hk,dD⟩:=hq;cases e with
  | normal=>cases hk;exact key a' w' dD
  | ret=>cases hk;exact key a' w' dD
  | exit id=>cases hk
  | goto l=>cases hk
  | panic l=>cases hk
  | outgrown=>cases hk
 have main:CallsIn (FW none) 0 P f (SV.vals ρ args).toArray w (fun e w'=> ∃v hs,e= .returned v∧ax v hs∧bG (hs++Fs) w'∧fE w w'):=by
  refine callsIn_of_wp_marks hf hb trivial (wpIn_mono Q4 ?_) rfl;exact fin
 have main':CallsIn Fence.wide 0 P f (SV.vals ρ args).toArray w (fun e w'=> ∃v hs,e= .returned v∧ax v hs∧bG (hs++Fs) w'∧fE w w'):=main;exact callsIn_wide.1 main'
end
theorem bL.nil{P:Program}:bL P []:=fun x hx=>(by cases hx)
theorem bL.cons{P:Program}{FT:List (Nat×Func)}{f:Nat}{fd:Func}(h:P.funcs[f]? =some fd)(hn:(fd.name== "runtime.NumGoroutine")=false)(hr:bL P FT):bL P ((f,fd)::FT):=by
 intro x hx;rcases adW.1 hx with rfl | hx
 ·exact⟨h,hn⟩
 ·exact hr x hx
theorem ar.law{P:Program}{f:Nat}{args:List Value}{pre:List HP}(h:ar P f args pre fun v _=>v= .bool true)(w:World)(cr:bG (pre++[xm w.heap.size w]) w):
  Calls P f args.toArray w fun e w'=>e= .returned (.bool true)∧RowKit.Below w.heap.size w w':=by
 refine(h w _ cr).mono ?_;rintro e w' ⟨v,hs,rfl,rfl,⟨S,hS⟩,rK⟩;refine⟨rfl,?_⟩;have:=(hS.at_ hs.length (xm w.heap.size w) (by simp)).1;exact⟨rK.os,rK.tape,rK.output,rK.size,fun k hk=>this.2 k hk⟩
end Go.RX
