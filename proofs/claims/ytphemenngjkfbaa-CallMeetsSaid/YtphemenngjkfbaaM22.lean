/- Executor. -/
import Derived.Test.YtphemenngjkfbaaM21
open Array renaming getD_eq_getD_getElem? → ad3, getElem?_eq_some_iff → adS
open Bool renaming and_eq_true → ai
open Go.Region renaming binds → aex
open List renaming all_eq_true → adI, append_nil → adW, map_cons → ad1, mem_append → aea, mem_cons_self → adN, mem_filter → ad7, mem_map → aeu, mem_range → adU, mem_singleton → aei, range → aec
open Nat renaming blt_eq → adX, lt_of_lt_of_le → adT
open Option renaming map_eq_some_iff → adM
open Option.some renaming injEq → adK
namespace Go.RX
section
variable {P:Program} {C:Ctx} {ao:Value→List HP→Prop} {Fs:List HP} {w0:World} {all:Array Oper} {pm:List Nat}
variable {ro:Option Nat} {nt:NT} {a0:Act} {aN:Array Bool} {a:Act} {w:World} {rest:List Nat} {done:Nat} {log:List (Nat×List Nat)} {st:St} {ρ:Env} {W:List Wr}
theorem Oper.Mu{F:Fence}{n:Nat}{o:Oper}{K:Act→World→Prop}{Q:Exit→Act→World→Prop}(hh:o.wpIn F n P a w K Q):
  o.wpIn F n P a w (fun a' w'=>K a' w'∧(a'.defers≠a.defers∨∃u,a'=a.put o.dst u)) Q:=by
 unfold Oper.wpIn at*;refine⟨hh.1,?_⟩;have hh:=hh.2;generalize (o.semAt F.round a.eval).run P w=r at*;cases r with
 | ok x w'=>
  cases x<;>simp only [Oper.uponIn]at hh ⊢ <;>
   first
    | exact⟨hh,.inr ⟨_,rfl⟩⟩
    | exact⟨hh,.inl (by rw [put_defers];simp)⟩
    | exact⟨hh.1,CallsIn.mono hh.2 (fun e U8 he=>by cases e<;>first | exact⟨he,.inr ⟨_,rfl⟩⟩ | exact he)⟩
    | exact⟨hh.1,RowsIn.mono hh.2 (fun _ _ he=>⟨he,.inr ⟨_,rfl⟩⟩)⟩
    | exact⟨hh.1,RoundIn.mono hh.2 (fun e U8 he=>by cases e<;>first | exact⟨he,.inr ⟨_,rfl⟩⟩ | exact he)⟩
    | exact hh
 | halt x w'=>cases x<;>simp only [Oper.uponIn]at hh ⊢ <;>exact hh
theorem Oper.GC{F:Fence}{n:Nat}{o:Oper}{K K':Act→World→Prop}{Q Q':Exit→Act→World→Prop}(h: ∀a w,K a w→K' a w)(hq: ∀c a w,¬Q (.panic c) a w)(ho: ¬LetsOut Q)
  (hh:o.wpIn F n P a w K Q):o.wpIn F n P a w K' Q':=by
 unfold Oper.wpIn at*;refine⟨hh.1,?_⟩;have hh:=hh.2;generalize (o.semAt F.round a.eval).run P w=r at*;cases r with
 | ok x w'=>
  cases x<;>simp only [Oper.uponIn]at hh ⊢ <;>
   first
    | exact h _ _ hh
    | exact⟨hh.1,CallsIn.mono hh.2 (fun e U8 he=>by cases e<;>first | exact h _ _ he | exact absurd he (hq _ _ _) | exact absurd he ho)⟩
    | exact⟨hh.1,RowsIn.mono hh.2 (fun _ _ he=>h _ _ he)⟩
    | exact⟨hh.1,RoundIn.mono hh.2 (fun e U8 he=>by cases e<;>first | exact h _ _ he | exact absurd he (hq _ _ _) | exact absurd he ho)⟩
 | halt x w'=>cases x<;>simp only [Oper.uponIn]at hh ⊢ <;>first | exact absurd hh (hq _ _ _) | exact hh
theorem J2{c:cz}{hp jE:List Ck}{rd:List Nat}{ρ bC:Env}(h:kept c hp jE rd=true)(ey:fU c ρ bC){j:Nat}(hj:j∈rd){a:Ck}(ha:hp[j]? =some a):
  ∃b,jE[j]? =some b∧b.den bC=a.den ρ:=by
 have h1:=adI.1 h j hj;simp only [ha]at h1;split at h1
 ·rename_i x b hx hb;cases hx;split at h1
  ·rename_i l hl;refine⟨b,hb,(rG ey.va hl fun y hy=>rE ey (adI.1 h1 y hy)).symm⟩
  ·cases h1
 ·rename_i hx;cases hx
 ·cases h1
theorem DI.effect{n:Nat}(LF:sq P C ao Fs w0 n){k:List KI}(fG:BY ρ k ro)(h:DI P Fs w0 all ro nt a0 aN a w rest done log st ρ W)(tK:kq all pm=true)(AY:yE all pm=true){e:Nat}{o:Oper}(he:all[e]? =some o)(her:e∈rest)
  (sX:jD aN e=false) (oL: ∀x∈o.after,aex .any x=true→jD aN x.on=true) (wP:qc st o.dst=true) {L:Nat→LC}
  (hv:VC P ao (run C n (.ops all [o]:: .Mv all pm e rest done log st.fn st.nt st.fr st.hp st.aQ::k) {st with fr:=restrict st.fr (slotsOf all o)}) ρ L) (Q:Exit→Act→World→Prop) (K:Act→World→Prop)
  (hK: ∀a' w',(∃m,m<n∧∃rest done log st bC L' W,VC P ao (run C m (.sn all pm rest done log::k) st) bC L'∧Env.Le ρ bC∧(∀j,j<nl k→L' j=L j)∧DI P Fs w0 all ro nt a0 (aN.setIfInBounds e true) a' w' rest done log st bC W)→K a' w'):
  wpOpIn (FW ro) 0 P all Q e K a w:=by
 have YD:e ∉ W.map (·.1):=((h.rest e).1 her).2;have YE:e<aN.size:=by rw [h.PO];exact(adS.1 he).1
 have Vd:a.defers=(mA a0 W).defers:=by rw [h.act,kp,kp]
 have eV:nt.n≤a.tmps.size:=by rw [h.act,nT,←nT W];exact h.ha.size
 have ha:HA (restrict st.fr (slotsOf all o)) nt ρ a:=by
  refine vT h.ha (fun s hs=>?_) Vd eV;rw [h.act];have:=vU (a0:=a0) (aN:=aN) (W1:=W) (tail:=[]) (s:=s) (fun y hy Il=>h.before tK AY he oL (tail:=[]) (by simp) YD (.inl hs) y hy Il) (fun y hy=>by cases hy)
  rwa [adW]at this
 have hw:HW Fs w0 {st with fr:=restrict st.fr (slotsOf all o)} ρ w:=
  ⟨h.hw.lens,adI.2 fun x hx=>adI.1 h.hw.kz x (ad7.1 hx).1,h.hw.fg,h.hw.nE,h.hw.kn,h.hw.own,h.hw.same,h.hw.lu⟩
 have Rm:=LF ro all [o] _ _ ρ L a w hv hw (by rw [show({st with fr:=restrict st.fr (slotsOf all o)}:St).nt=st.nt from rfl,h.LB];exact ha) (fG.push rfl);have fin: ∀a' w',QK P C ao Fs w0 n (.Mv all pm e rest done log st.fn st.nt st.fr st.hp st.aQ::k) ρ L .normal a' w'→(a'.defers≠a.defers∨∃u,a'=a.put o.dst u)→K a' w':=by
  intro a' w' hq uv;obtain⟨k',hk,m,hm,df,bC,L',g1,g2,g3,g4,g5⟩:=hq;cases hk;cases m with
  | zero=>exact g5.elim
  | succ m=>
   simp only [run,he]at g5;split at g5
   case isFalse=>exact g5.elim
   rename_i PS;rw [ai,beq_iff_eq]at PS;obtain⟨PS,An⟩:=PS;obtain⟨u,rfl⟩: ∃u,a'=a.put o.dst u:=by
    rcases uv with uv | uv
    ·rw [g4.defers,Vd,h.ha.defers,An,h.LB]at uv;exact absurd (tN (Env.Le.agree h.hw.lens g1) (by rw [←h.LB];exact h.hw.lu)).symm uv
    ·exact uv
   split at g5
   case h_2=>exact g5.elim
   rename_i v ri;have ey:=Env.Le.agree h.hw.lens g1;have dZ:=gg.le h.hw.lens g3.lens g1;have H_:v.sc df.aQ=true:=by
    cases hd:o.dst with
    | none=>rw [hd]at ri;simp only [adK]at ri;subst ri;rfl
    | some d=>rw [hd]at ri;exact BW g3.kz ri
   have Im:HW Fs w0 (fv df st.fn st.nt st.fr) bC w':=⟨g3.lens,cD dZ h.hw.kz,g3.fg,g3.nE,g3.kn,g3.own,g3.same,c_ dZ h.hw.lu⟩;have Pz:=dU (fv df st.fn st.nt st.fr) o.dst v;have uV: ∀j,jD (aN.setIfInBounds e true) j=(decide (e=j)||jD aN j):=fun j=>xd YE
   refine hK _ _ ⟨m,by omega,_,_,_,_,bC,L',W++[(e,o.dst,u)],g5,g1,g2,?_⟩;refine⟨Im.put H_,by rw [Pz.2.2.2.1];exact h.LB,?_,?_,?_,?_,?_,?_,by simp [h.PO],?_,?_,?_⟩
   ·have f1:W.filter (fun y=>jD (aN.setIfInBounds e true) y.1)=W.filter (fun y=>jD aN y.1):=List.filter_congr fun y hy=>by
     have:e≠y.1:=fun ee=>YD (by rw [ee];exact aeu.2 ⟨y,hy,rfl⟩)
     rw [uV];simp [this]
    rw [List.filter_append,f1,List.filter_cons_of_pos (by rw [uV];simp),List.filter_nil,iR,tG,←h.act]
   ·rw [iR,tG];have ha3:=h.ha.more h.hw.kz (by rw [←h.LB];exact h.hw.lu) ey;cases hd:o.dst with
    | none=>exact ha3
    | some d=>
     have SJ:d<nt.n:=by rw [←h.LB];exact tM wP d hd
     refine HA.put ha3 (fun x hx=>by cases hx;exact SJ) ?_ _ rfl;rw [hd]at ri;have:=g4.aV d v ri;rw [hd,yD a d u (adT SJ eV)]at this;exact this
   ·rw [List.map_append,List.nodup_append];exact⟨h.nd,by simp,fun x hx y hy=>by
     simp only [ad1,List.map_nil,aei]at hy;subst hy;intro Vc;subst Vc;exact YD hx⟩
   ·intro j;rw [vV,Bool.or_eq_true,h.done,List.map_append,aea];simp only [decide_eq_true_eq,ad1,List.map_nil,aei];exact⟨fun hj=>hj.imp id Eq.symm,fun hj=>hj.imp id Eq.symm⟩
   ·intro j;rw [ad7,h.rest,List.map_append,aea];simp only [bne_iff_ne,ne_eq,ad1,List.map_nil,aei,not_or,and_assoc]
   ·intro j hj;rw [List.map_append,aea];rw [uV,Bool.or_eq_true]at hj;rcases hj with hj | hj
    ·right;rw [←of_decide_eq_true hj];simp
    ·exact .inl (h.sub j hj)
   ·intro p op FM hp x hx hb;rw [uV,Bool.or_eq_true]at hp ⊢;rcases hp with hp | hp
    ·have:=of_decide_eq_true hp;subst this;rw [he]at FM;cases FM;exact .inr (oL x hx hb)
    ·exact .inr (h.Ue p op FM hp x hx hb)
   ·intro W1 x W2 hW;rcases oM hW with⟨rfl,rfl,rfl⟩ | ⟨JZ,rfl,Ph⟩
    ·exact⟨o,he,rfl,fun x hx hb=>h.sub _ (oL x hx hb)⟩
    ·exact h.PQ W1 x JZ Ph
   ·intro W1 x W2 hW GB;rcases oM hW with⟨rfl,rfl,rfl⟩ | ⟨JZ,rfl,Ph⟩
    ·rw [uV]at GB;simp at GB
    ·rw [uV,Bool.or_eq_false_iff]at GB;obtain⟨o',rd,hp,qO,h1,h2,h3,h4⟩:=h.PR W1 x JZ Ph GB.2;refine⟨o',rd,hp,qO,h1,h2,h3,fun j hj ck Gx=>?_⟩;obtain⟨O9,JU,yG⟩:=h4 j hj ck Gx;have hx:=adI.1 PS _ h2;simp only [Bool.or_eq_true]at hx;rcases hx with hx | hx
     ·have hxl:x.1<all.size:=(adS.1 h1).1;have:=tI AY (fun q=>jD aN q=true) h.Ue he oL hxl hx;rw [GB.2]at this;cases this
     ·obtain⟨b,hb,hbd⟩:=J2 hx ey hj JU;exact⟨b,by rw [Pz.1];exact hb,by rw [hbd,yG]⟩
 unfold wpOpIn;simp only [he];unfold wpListIn at Rm;split
 ·rename_i lQ;rw [if_pos lQ]at Rm;refine Oper.GC (fun a' w' hh=>fin a' w' hh.1 hh.2) (fun c a' w' hq=>?_) (fun hq=>?_) (Oper.Mu Rm)
  ·obtain⟨k',hk,_⟩:=hq;cases hk
  ·obtain⟨_,_,k',hk,_⟩:=hq;cases hk
 ·rename_i lQ;rw [if_neg lQ]at Rm;exact⟨Rm.1,fin _ _ Rm.2 (.inr ⟨undef,rfl⟩)⟩
theorem DI.descend(hT:bw P C.T=true){k:List KI}{L:Nat→LC}: ∀{m:Nat} {rest:List Nat} {done:Nat} {log:List (Nat×List Nat)} {st:St} {W:List Wr},
  VC P ao (run C m (.sn all pm rest done log::k) st) ρ L→DI P Fs w0 all ro nt a0 aN a w rest done log st ρ W→
  ∃m',m'≤m∧∃rest done log st W,VC P ao (run C m' (.sn all pm rest done log::k) st) ρ L∧DI P Fs w0 all ro nt a0 aN a w rest done log st ρ W∧
   (rest=[]∨(rest.find? fun i=>BZ all i&&lR all done i)=none)
 | 0,rest,done,log,st,W,hv,_=>hv.elim
 | m+1,[],done,log,st,W,hv,h=>⟨m+1,Nat.le_refl _,[],done,log,st,W,hv,h,.inl rfl⟩
 | m+1,x::r,done,log,st,W,hv,h=>by
  cases hf:(x::r).find? fun i=>BZ all i&&lR all done i with
  | none=>exact⟨m+1,Nat.le_refl _,x::r,done,log,st,W,hv,h,.inr hf⟩
  | some i=>
   have GD:=List.mem_of_find?_eq_some hf;have hG:=List.find?_some hf;simp only [ai]at hG;simp only [run,hf]at hv;split at hv
   case h_2=>exact hv.elim
   rename_i o ho;split at hv
   case isFalse=>exact hv.elim
   rename_i wP;split at hv
   ·exact hv.elim
   ·rename_i g hg;split at hv
    case isFalse=>exact hv.elim
    rename_i YB;split at hv
    case h_2=>exact hv.elim
    rename_i res D6;split at hv
    case h_2=>exact hv.elim
    rename_i PT;obtain⟨cb,hv⟩:=gW h.hw.kn hv;obtain⟨m',YF,q⟩:=DI.descend hT hv (h.quiet hT GD hG.2 ho wP hg YB D6 PT cb);exact⟨m',by omega,q⟩
def Rn(all:Array Oper)(aN:Array Bool):Nat:=(aec all.size).countP fun i=> !jD aN i
theorem PU(hl:aN.size=all.size){i:Nat}(hi:i<all.size)(hn:jD aN i=false):Rn all (aN.setIfInBounds i true)+1≤Rn all aN:=by
 unfold Rn;have key: ∀(l:List Nat),l.Nodup→i∈l→l.countP (fun j=> !jD (aN.setIfInBounds i true) j)+1≤l.countP (fun j=> !jD aN j):=by
  intro l
  induction l with
  | nil=>intro _ h;cases h
  | cons x r ih=>
   intro fY hm;rw [List.nodup_cons]at fY;rw [List.countP_cons,List.countP_cons,xd (by omega)];by_cases hx:i=x
   ·subst hx;have:r.countP (fun j=> !jD (aN.setIfInBounds i true) j)=r.countP (fun j=> !jD aN j):=List.countP_congr fun j hj=>by
     have:i≠j:=fun e=>fY.1 (e▸hj)
     rw [xd (by omega)];simp [this]
    rw [this];simp [hn]
   ·have YF:i∈r:=(List.mem_cons.1 hm).resolve_left hx;have:=ih fY.2 YF;simp only [hx,decide_false,Bool.false_or];omega
 exact key _ List.nodup_range (adU.2 hi)
theorem Mx(h:Rn all aN=0): ∀i,i<all.size→jD aN i=true:=by
 intro i hi;unfold Rn at h;rw [List.countP_eq_zero]at h;have:=h i (adU.2 hi);simpa using this
theorem DI.J3(h:DI P Fs w0 all ro nt a0 aN a w rest done log st ρ W)(AY:yE all pm=true)(hr:Region.ready .any all aN=[]): ∀i,i<all.size→jD aN i=true:=by
 intro i
 induction i using Nat.strongRecOn with
 | _ i ih=>
  intro hi;cases hl:jD aN i with
  | true=>rfl
  | false=>
   have hoi:all[i]? =some all[i]:=Array.getElem?_eq_getElem hi;have:i∈Region.ready .any all aN:=by
    rw [mem_ready];refine⟨?_,_,hoi,fun e he hb=>?_⟩
    ·have CZ:i<aN.size:=by rw [h.PO];exact hi
     unfold jD at hl;rw [ad3,Array.getElem?_eq_getElem CZ]at hl ⊢;exact hl
    ·have:=(uR AY hoi).1 e he hb;exact ih e.on this (by omega)
   rw [hr]at this;cases this
theorem Io{aN:Array Bool}{a:Act}{w:World}{m:Nat}{n:Nat}{rest:List Nat}{done:Nat}{log:List (Nat×List Nat)}{st:St}{ρ:Env}{W:List Wr}{k:List KI}{L:Nat→LC}{Ik:Env}{Lb:Nat→LC}
  (uD: ∀i,i<all.size→jD aN i=true) (hm:m≤n) (hv:VC P ao (run C m (.sn all pm rest done log::k) st) ρ L) (hle:Env.Le Ik ρ) (hL: ∀j,j<nl k→L j=Lb j)
  (h:DI P Fs w0 all ro nt a0 aN a w rest done log st ρ W):QK P C ao Fs w0 n k Ik Lb .normal a w:=by
 have Ug:rest=[]:=by
  cases hr:rest with
  | nil=>rfl
  | cons x r=>
   have:=(h.rest x).1 (by rw [hr];exact adN);exact absurd (h.sub x (uD x this.1)) this.2
 subst Ug;cases m with
 | zero=>exact hv.elim
 | succ m=>
  simp only [run]at hv;have hW:W.filter (fun x=>jD aN x.1)=W:=by
   rw [List.filter_eq_self];intro x hx;obtain⟨A,B,hAB⟩:=List.append_of_mem hx;obtain⟨o,ho,_⟩:=h.PQ A x B hAB;exact uD x.1 (adS.1 ho).1
  have Ve:=h.act;rw [hW]at Ve;refine⟨k,rfl,m,by omega,st,ρ,L,hle,hL,h.hw,?_,hv⟩;rw [Ve,h.LB];exact h.ha
theorem AZ{ρ:Env}{L:Nat→LC}: ∀{l:List F},VC P ao (My l) ρ L→∀x∈l,VC P ao x ρ L
 | [],h,_,_=>h.elim
 | [x],h,y,hy=>by
  rw [aei]at hy;exact hy▸h
 | x::y::r,h,z,hz=>by
  rcases List.mem_cons.1 hz with rfl | hz
  ·exact h.1
  ·exact AZ h.2 z hz
theorem Mz(hT:bw P C.T=true){n:Nat}(LF: ∀m,m<n→sq P C ao Fs w0 m)(tK:kq all pm=true)(AY:yE all pm=true){k:List KI}{Ik:Env}{Lb:Nat→LC}(fG:BY Ik k ro):
  ∀(fuel:Nat) (aN:Array Bool) (a:Act) (w:World),Rn all aN≤fuel→
   (∃m,m≤n∧∃rest done log st ρ L W,VC P ao (run C m (.sn all pm rest done log::k) st) ρ L∧Env.Le Ik ρ∧(∀j,j<nl k→L j=Lb j)∧DI P Fs w0 all ro nt a0 aN a w rest done log st ρ W)→
   wpAnyIn (FW ro) 0 P .any all (QK P C ao Fs w0 n k Ik Lb) fuel aN a w:=by
 intro fuel
 induction fuel with
 | zero=>
  intro aN a w hf ⟨m,hm,rest,done,log,st,ρ,L,W,hv,hle,hL,h⟩;have uD:=Mx (Nat.le_zero.1 hf);refine⟨?_,?_⟩
  ·cases hr:Region.ready .any all aN with
   | nil=>rfl
   | cons i r=>
    have:i∈Region.ready .any all aN:=by rw [hr];exact adN
    rw [mem_ready]at this;obtain⟨h0,o,ho,_⟩:=this;have hi:i<all.size:=(adS.1 ho).1;have hl:=uD i hi;unfold jD at hl;have CZ:i<aN.size:=by rw [h.PO];exact hi
    rw [ad3,Array.getElem?_eq_getElem CZ]at hl h0;simp at hl h0;rw [hl]at h0;cases h0
  ·exact Io uD hm hv hle hL h
 | succ fuel ih=>
  intro aN a w hf ⟨m,hm,rest,done,log,st,ρ,L,W,hv,hle,hL,h⟩;refine⟨fun hr=>Io (h.J3 AY hr) hm hv hle hL h,fun i hi=>?_⟩;rw [mem_ready]at hi;obtain⟨h0,o,ho,Al⟩:=hi;have CZ:i<all.size:=(adS.1 ho).1;have sX:jD aN i=false:=by
   have:i<aN.size:=by rw [h.PO];exact CZ
   unfold jD;rw [ad3,Array.getElem?_eq_getElem this]at h0 ⊢;exact h0
  have Vf:Rn all (aN.setIfInBounds i true)≤fuel:=by
   have:=PU h.PO CZ sX;omega
  obtain⟨m',YF,MA,MB,YG,df,W',ri,h',PV⟩:=DI.descend hT hv h;by_cases Rl:i∈W'.map (·.1)
  ·exact h'.pending tK AY ho sX Al Rl _ _ fun a' hD=>ih _ _ _ Vf ⟨m',by omega,MA,MB,YG,df,ρ,L,W',ri,hle,hL,hD⟩
  ·have SI:i∈MA:=(h'.rest i).2 ⟨CZ,Rl⟩;have cU:lR all MB i=true:=J0 ho fun e he hb=>(h'.done _).2 (h'.sub _ (Al e he hb))
   rcases PV with rfl | PV
   ·cases SI
   ·cases m' with
    | zero=>exact ri.elim
    | succ m'=>
     cases Ug:MA with
     | nil=>rw [Ug]at SI;cases SI
     | cons x r=>
      rw [Ug]at ri PV;simp only [run,PV]at ri;have hiL:i∈(x::r).filter (lR all MB):=ad7.2 ⟨Ug▸SI,cU⟩;have ri:=AZ ri _ (aeu.2 ⟨i,hiL,rfl⟩);simp only [ho]at ri;split at ri
      case isFalse=>exact ri.elim
      rename_i wP;rw [←Ug]at ri;refine DI.effect (LF m' (by omega)) (fG.le hle) h' tK AY ho SI sX Al wP ri _ _ fun a' w' hq=>ih _ _ _ Vf ?_
      obtain⟨m2,Sw,Vg,Vh,log2,D7,Ip,L2,W2,q1,q2,q3,q4⟩:=hq;exact⟨m2,by omega,Vg,Vh,log2,D7,Ip,L2,W2,q1,hle.trans q2,fun j hj=>(q3 j hj).trans (hL j hj),q4⟩
theorem HW.drew(h:HW Fs w0 st ρ w)(d:Nat):HW Fs w0 st ρ {w with drawn:=d}:=by
 refine⟨h.lens,h.kz,h.fg,h.nE,h.kn,?_,h.same.trans ⟨rfl,rfl,rfl,Nat.le_refl _⟩,h.lu⟩;obtain⟨S,hS⟩:=h.own;exact⟨S,hS.Sf (Nat.le_refl _) fun _ _=>rfl⟩
theorem D8(hT:bw P C.T=true)(hm:P.follows .mixedOrders=true){n:Nat}(LF: ∀m,m<n→sq P C ao Fs w0 m):GF P C ao Fs w0 n:=by
 intro ro id all pm k st ρ L a w hv tK AY hw ha fG;refine wpIn_region_any hm (Mz (ro:=ro) (nt:=st.nt) (a0:=a) hT LF tK AY fG _ _ _ _ ?_ ⟨n,Nat.le_refl _,_,_,_,_,ρ,L,[],hv,Env.Le.refl _,fun _ _=>rfl,?_⟩)
 ·unfold Rn;exact Nat.le_trans List.countP_le_length (by simp)
 ·have Sv: ∀i,jD (Array.replicate all.size false) i=false:=by
   intro i;unfold jD;rw [ad3];by_cases hi:i<all.size
   ·simp [hi]
   ·rw [Array.getElem?_eq_none (by simpa using hi)];rfl
  refine⟨hw.drew _,rfl,rfl,ha,List.nodup_nil,fun i=>by simp,fun i=>by simp,fun i hi=>?_,by simp,fun p o _ hp=>?_,fun W1 x W2 hW=>?_,fun W1 x W2 hW=>?_⟩
  ·rw [Sv]at hi;cases hi
  ·rw [Sv]at hp;cases hp
  ·simp at hW
  ·simp at hW
end
section
variable {P:Program} {C:Ctx} {ao:Value→List HP→Prop} {Fs:List HP} {w0:World}
theorem A_(hT:bw P C.T=true){n N:Nat}(hnN:n<N)(vW: ∀m,m<N→qd P C ao Fs w0 m){ro:Option Nat}{c:Code}{fd:Func}{f:Nat}(hf:P.funcs[f]? =some fd)(hb:fd.body=some c){k:List KI}{st:St}{ρ Ik:Env}{L Lb:Nat→LC}{w:World}
  {az:List SV} {l r fn:Nat} {nt:NT} {fr:List (Nat×SV)} {ps:Array Tmp} {x y:Code} {a':Act}
  (hv:VC P ao (run C n (.code c:: .rf l r fn nt fr ps x y fd::k) (fv st f ⟨fd.ntmps,[]⟩ (eo 0 az))) ρ L) (iM:SV.pw st.aQ az=true) (hw:HW Fs w0 st ρ w)
  (fG:BY ρ (.rf l r fn nt fr ps x y fd::k) none) (Ro:BY ρ k ro) (Re:kW st.aQ fr=true) (LG:nt.ds.all (MK.sc st.aQ)=true) (ha:HA fr nt ρ a') (hle:Env.Le Ik ρ) (hL: ∀j,j<nl k→L j=Lb j) (hl:l<st.aQ.b):
  CallsIn (FW none) 0 P f (SV.bK ρ az).toArray w (rangePost (FW ro) 0 P (ρ.bv.getD l 0) (QK P C ao Fs w0 N k Ik Lb) a'):=by
 refine callsIn_of_wp_marks hf hb trivial ?_ rfl;have Vi:HW Fs w0 (fv st f ⟨fd.ntmps,[]⟩ (eo 0 az)) ρ w:=⟨hw.lens,xe az 0 iM,hw.fg,hw.nE,hw.kn,hw.own,hw.same,rfl⟩;refine wpIn_mono (vW n hnN none c _ _ ρ L _ w hv Vi (yI az fd.ntmps) fG) ?_;have key: ∀a1 w1,At P C ao Fs w0 n (.rf l r fn nt fr ps x y fd::k) ρ L a1 w1→LeavesInM (FW none) 0 P fd a1.tmps (rangePost (FW ro) 0 P (ρ.bv.getD l 0) (QK P C ao Fs w0 N k Ik Lb) a') a1.defers .returning w1:=by
  intro a1 w1 ⟨m,hm,df,bC,L',h1,h2,h3,h4,h5⟩;cases m with
  | zero=>exact h5.elim
  | succ m=>
   simp only [run]at h5;split at h5
   case h_2=>exact h5.elim
   rename_i D7 zY;have MC:D7.fr=df.fr∧D7.nt=df.nt∧D7.aQ=df.aQ:=by
    unfold mO at zY;rw [adM]at zY;obtain⟨jE,_,rfl⟩:=zY;exact⟨rfl,rfl,rfl⟩
   split at h5
   case h_2=>exact h5.elim
   rename_i v i r' s j hv GG;split at h5
   ·exact h5.elim
   ·rename_i Vj;refine nu zY h3 h4 fun w2 D9=>?_
    refine⟨_,oN hT D9 (nt:=df.nt) (by rw [MC.1];exact h4) hv,?_⟩;have jH:=lv D9 GG;have Vk:bC.bv.getD l 0=ρ.bv.getD l 0:=((Env.Le.agree hw.lens h1).b l hl).symm;rw [Vk]at jH;refine⟨j.code,_,run_endLoop jH (by cases s<;>first | (simp [RS.st];done) | exact absurd rfl Vj),?_⟩;have Im:=B0 D9 GG .exhausted j;rw [Vk]at Im;have dZ:=gg.le hw.lens D9.lens h1;have MD:HW Fs w0 (fv {D7 with hp:=D7.hp.set i (.kI l r' .exhausted j)} fn nt fr) bC _:=⟨Im.lens,cD dZ Re,Im.fg,Im.nE,Im.kn,Im.own,Im.same,c_ dZ LG⟩;have YH:HA fr nt bC a':=ha.more Re LG (Env.Le.agree hw.lens h1);have Sp: ∀q,q<nl k→L' q=Lb q:=fun q hq=>(h2 q hq).trans (hL q hq)
    cases j with
    | none=>
     exact⟨k,rfl,m,by omega,_,bC,L',hle.trans h1,Sp,MD,YH,h5⟩
    | ret=>
     exact wpIn_mono (vW m (by omega) ro .ret k _ bC L' a' _ h5 MD YH (Ro.le h1)) fun e a w hq=>hq.mono (by omega) (hle.trans h1) Sp
    | exit id=>
     exact wpIn_mono (vW m (by omega) ro (.exit id) k _ bC L' a' _ h5 MD YH (Ro.le h1)) fun e a w hq=>hq.mono (by omega) (hle.trans h1) Sp
 intro e a1 w1 hq;obtain⟨k',hk,dM⟩:=hq;cases e with
 | normal=>cases hk;exact key a1 w1 dM
 | ret=>cases hk;exact key a1 w1 dM
 | exit id=>cases hk
 | goto l=>cases hk
 | panic l=>cases hk
 | outgrown=>cases hk
theorem J4{ρ:Env}{c:cz}(h:gg ρ c)(l:Nat)(q:Loop):gg (ρ.ext ⟨[l],[],[],[],[],[],[q]⟩) {c with b:=c.b+1,r:=c.r+1}:=
 ⟨by simp [Env.ext,h.b],by simp [Env.ext,h.v],by simp [Env.ext,h.i],by simp [Env.ext,h.a],by simp [Env.ext,h.bo],by simp [Env.ext,h.p],by simp [Env.ext,h.r]⟩
theorem J5{ρ:Env}{c:cz}(h:gg ρ c)(d l:Nat)(q:Loop):gg (ρ.ext ⟨[d,l],[],[],[],[],[],[q]⟩) {c with b:=c.b+2,r:=c.r+1}:=
 ⟨by simp [Env.ext,h.b],by simp [Env.ext,h.v],by simp [Env.ext,h.i],by simp [Env.ext,h.a],by simp [Env.ext,h.bo],by simp [Env.ext,h.p],by simp [Env.ext,h.r]⟩
theorem sr(w:World)(o:Obj):fQ w (w.alloc o):=⟨rfl,rfl,rfl,by simp⟩
theorem D_(hT:bw P C.T=true)(Ba:bb P C.FT){n:Nat}(vW: ∀m,m<n→qd P C ao Fs w0 m):ME P C ao Fs w0 n:=by
 intro ro g ps x y k st ρ L a w hv hw ha fG;cases n with
 | zero=>exact hv.elim
 | succ n=>
  have hn:n<n+1:=Nat.lt_succ_self n;simp only [run]at hv;split at hv
  case h_2=>exact hv.elim
  rename_i f jB hg;have Xn:=eL ha.eval hg;split at hv
  ·exact hv.elim
  rename_i fd yJ;have GD:=List.mem_of_find?_eq_some yJ;have JC:=List.find?_some yJ;simp only [beq_iff_eq]at JC;obtain⟨hf,Ea⟩:=Ba _ GD;simp only at hf Ea;rw [JC]at hf;split at hv
  ·exact hv.elim
  rename_i c hb;split at hv
  case isFalse=>exact hv.elim
  rename_i Iq;have SK: ¬fd.name= "runtime.NumGoroutine" :=by simpa using Ea
  have D6: ∀(l:Nat) (w1:World),(resolve a.eval (rangeCall g l) 0).run P w1= .ok {target:= .fn (.func f) (SV.bK ρ jB).toArray,args:= #[.func (.yield l) #[] #[]]} w1:=by
   intro l w1;simp only [resolve,Xn,SV.val,Deferred.ofValue];simp [Act.eval]
  have hinv: ∀(l:Nat) (w1:World),(invoke (.fn (.func f) (SV.bK ρ jB).toArray) #[.func (.yield l) #[] #[]]).run P w1= .ok (.enter f (#[.func (.yield l) #[] #[]]++(SV.bK ρ jB).toArray)) w1:=by
   intro l w1;simp [invoke,callFunc,hf,SK,hb]
  have JR:=fG.ro;split at hv
  ·
   rename_i YI;rw [YI]at JR;simp only at JR;subst JR;refine wpIn_rangeFunc fun fn _=>?_
   have e1:=run_enterLoop_outer (P:=P) (w:=w) fn a.tmps ps x y;refine⟨_,_,_,_,_,f,_,_,e1,D6 _ _,fun _ _=>trivial,hinv _ _,fun h=>(by cases h),?_⟩;simp only [VC]at hv;have vO:=hv w.heap.size (w.heap.size+1) {state:= .ready,pending:=none,fn,tmps:=a.tmps,params:=ps,assign:=x,body:=y,defers:=w.heap.size};generalize hq:({state:= .ready,pending:=none,fn,tmps:=a.tmps,params:=ps,assign:=x,body:=y,defers:=w.heap.size}:Loop)=q at vO e1 ⊢;have hle:=Env.gi ρ ⟨[w.heap.size,w.heap.size+1],[],[],[],[],[],[q]⟩;have ey:=Env.Le.agree hw.lens hle;have hl:=J5 hw.lens w.heap.size (w.heap.size+1) q;have dZ:=gg.le hw.lens hl hle;have b1:(ρ.ext ⟨[w.heap.size,w.heap.size+1],[],[],[],[],[],[q]⟩).bv.getD st.aQ.b 0=w.heap.size:=by simp [Env.ext,←hw.lens.b]
   have b2:(ρ.ext ⟨[w.heap.size,w.heap.size+1],[],[],[],[],[],[q]⟩).bv.getD (st.aQ.b+1) 0=w.heap.size+1:=by simp [Env.ext,←hw.lens.b]
   have b3:(ρ.ext ⟨[w.heap.size,w.heap.size+1],[],[],[],[],[],[q]⟩).lr.getD st.aQ.r g_=q:=by simp [Env.ext,←hw.lens.r]
   have YJ:({q with state:=RS.ready.st,pending:=Jump.none.code}:Loop)=q:=by subst hq;rfl
   have O_:q.params=ps:=by subst hq;rfl
   have YK:q.assign=x:=by subst hq;rfl
   have Xo:q.body=y:=by subst hq;rfl
   have YL:q.tmps=a.tmps:=by subst hq;rfl
   clear hq;generalize YM:ρ.ext ⟨[w.heap.size,w.heap.size+1],[],[],[],[],[],[q]⟩=qO at vO hle ey hl b1 b2 b3;have Vl:bd ((st.hp.map (Ck.den qO)++[xO w.heap.size])++Fs) (w.alloc (.deferred (some []))):=by
    refine bd.add (by rw [←jP ey hw.fg];exact hw.own) _ (fun k=>k=w.heap.size) (by simp) (fun k hk=>heap_alloc_old w _ hk) ⟨fun _=>Iff.rfl,heap_alloc_new w _⟩ (fun k hk=>by simp;omega)
   have MF:bd (((st.hp.map (Ck.den qO)++[xO w.heap.size])++[j8 (w.heap.size+1) q])++Fs) ((w.alloc (.deferred (some []))).alloc (.loop q)):=by
    have eV:(w.alloc (.deferred (some []))).heap.size=w.heap.size+1:=by simp
    refine bd.add Vl _ (fun k=>k=w.heap.size+1) (by simp) (fun k hk=>heap_alloc_old _ _ hk) ⟨fun _=>Iff.rfl,?_⟩ (fun k hk=>by simp;omega);have:=heap_alloc_new (w.alloc (.deferred (some []))) (.loop q)
    rwa [eV]at this
   have w_:HW Fs w0 {st with hp:=st.hp++[.JT st.aQ.b]++[.kI (st.aQ.b+1) st.aQ.r .ready .none],aQ:={st.aQ with b:=st.aQ.b+2,r:=st.aQ.r+1}} qO ((w.alloc (.deferred (some []))).alloc (.loop q)):=by
    refine⟨hl,cD dZ hw.kz,?_,eO dZ hw.nE,fun b hb=>(BE.gn ey (adI.1 hw.nE b hb)).1 (hw.kn b hb),?_,(hw.same.trans (sr _ _)).trans (sr _ _),c_ dZ hw.lu⟩
    ·simp only [List.all_append,ai,List.all_cons,List.all_nil,Ck.sc,adX];exact⟨⟨im dZ hw.fg,by omega,trivial⟩,⟨by omega,by omega⟩,trivial⟩
    ·simp only [List.map_append,ad1,List.map_nil,Ck.den,b1,b2,b3,YJ];exact MF
   have MG:kW {st.aQ with b:=st.aQ.b+2,r:=st.aQ.r+1} st.fr=true:=cD dZ hw.kz;have YN:(MK.one st.aQ.b::st.nt.ds).all (MK.sc {st.aQ with b:=st.aQ.b+2,r:=st.aQ.r+1})=true:=by
    rw [List.all_cons,ai,MK.sc,adX];exact⟨by show st.aQ.b<st.aQ.b+2;omega,c_ dZ hw.lu⟩
   have GH:=ha.more hw.kz hw.lu ey;have Eb:BY qO (.rf (st.aQ.b+1) st.aQ.r st.fn ⟨st.nt.n,.one st.aQ.b::st.nt.ds⟩ st.fr ps x y fd::k) none:=by
    refine⟨fun l r fn nt fr Xp x' y' Vm hm=>?_,rfl⟩;rcases List.mem_cons.1 hm with hm | hm
    ·cases hm;refine⟨qO,_,hl,Env.Le.refl _,MG,by simp,by rw [b3,O_],by rw [b3,YK],by rw [b3,Xo],?_⟩;rw [b3,YL];exact⟨rfl,GH.size,GH.aV⟩
    ·exact(fG.le hle).rf l r fn nt fr Xp x' y' Vm hm
   have qe:=A_ (Lb:=L) hT hn vW hf hb (a':={a with defers:=[{target:= .collected w.heap.size,args:= #[]}]++a.defers}) vO
    (by simp only [SV.pw,SV.sc,ai,adX];exact⟨by omega,SV.eN dZ Iq⟩) w_ Eb (fG.le hle) MG YN
    ⟨by rw [ha.defers,tN ey hw.lu];simp only [marks,List.flatMap_cons,MK.blocks,ad1,b1,List.singleton_append],GH.size,GH.aV⟩ hle (fun _ _=>rfl) (by simp)
   rw [b2]at qe;have jC:(SV.bK qO (.Jp (st.aQ.b+1)::jB)).toArray= #[.func (.yield (w.heap.size+1)) #[] #[]]++(SV.bK ρ jB).toArray:=by
    simp only [SV.bK,SV.val,b2,(SV.fF ey Iq).1];simp
   rw [jC]at qe;exact qe
  ·
   rename_i l0 YI;rw [YI]at JR;simp only at JR;obtain⟨vX,c0,k1,k2,k3,k4⟩:=JR;rw [(Env.Le.agree k1 k2).b l0 k3]at k4;split at hv
   case h_2=>exact hv.elim
   rename_i rc GG;obtain⟨i0,r0,s0,j0⟩:=rc;have jH:=lv hw GG;refine wpIn_rangeFunc fun fn _=>?_
   have e1:=run_enterLoop_inner (P:=P) (w:=w) jH fn a.tmps ps x y;rw [show(FW ro).round=ro from rfl,k4];refine⟨_,_,_,_,_,f,_,_,e1,D6 _ _,fun _ _=>trivial,hinv _ _,fun h=>(by cases h),?_⟩;simp only [VC]at hv;have vO:=hv w.heap.size {state:= .ready,pending:=none,fn,tmps:=a.tmps,params:=ps,assign:=x,body:=y,defers:=({ρ.lr.getD r0 g_ with state:=s0.st,pending:=j0.code}:Loop).defers};generalize hq:({state:= .ready,pending:=none,fn,tmps:=a.tmps,params:=ps,assign:=x,body:=y,defers:=({ρ.lr.getD r0 g_ with state:=s0.st,pending:=j0.code}:Loop).defers}:Loop)=q at vO e1 ⊢;have hle:=Env.gi ρ ⟨[w.heap.size],[],[],[],[],[],[q]⟩;have ey:=Env.Le.agree hw.lens hle;have hl:=J4 hw.lens w.heap.size q;have dZ:=gg.le hw.lens hl hle;have b2:(ρ.ext ⟨[w.heap.size],[],[],[],[],[],[q]⟩).bv.getD st.aQ.b 0=w.heap.size:=by simp [Env.ext,←hw.lens.b]
   have b3:(ρ.ext ⟨[w.heap.size],[],[],[],[],[],[q]⟩).lr.getD st.aQ.r g_=q:=by simp [Env.ext,←hw.lens.r]
   have YJ:({q with state:=RS.ready.st,pending:=Jump.none.code}:Loop)=q:=by subst hq;rfl
   have O_:q.params=ps:=by subst hq;rfl
   have YK:q.assign=x:=by subst hq;rfl
   have Xo:q.body=y:=by subst hq;rfl
   have YL:q.tmps=a.tmps:=by subst hq;rfl
   clear hq;generalize YM:ρ.ext ⟨[w.heap.size],[],[],[],[],[],[q]⟩=qO at vO hle ey hl b2 b3;have MF:bd ((st.hp.map (Ck.den qO)++[j8 w.heap.size q])++Fs) (w.alloc (.loop q)):=by
    refine bd.add (by rw [←jP ey hw.fg];exact hw.own) _ (fun k=>k=w.heap.size) (by simp) (fun k hk=>heap_alloc_old w _ hk) ⟨fun _=>Iff.rfl,heap_alloc_new w _⟩ (fun k hk=>by simp;omega)
   have w_:HW Fs w0 {st with hp:=st.hp++[.kI st.aQ.b st.aQ.r .ready .none],aQ:={st.aQ with b:=st.aQ.b+1,r:=st.aQ.r+1}} qO (w.alloc (.loop q)):=by
    refine⟨hl,cD dZ hw.kz,?_,eO dZ hw.nE,fun b hb=>(BE.gn ey (adI.1 hw.nE b hb)).1 (hw.kn b hb),?_,hw.same.trans (sr _ _),c_ dZ hw.lu⟩
    ·simp only [List.all_append,ai,List.all_cons,List.all_nil,Ck.sc,adX];exact⟨im dZ hw.fg,⟨by omega,by omega⟩,trivial⟩
    ·simp only [List.map_append,ad1,List.map_nil,Ck.den,b2,b3,YJ];exact MF
   have MG:kW {st.aQ with b:=st.aQ.b+1,r:=st.aQ.r+1} st.fr=true:=cD dZ hw.kz;have GH:=ha.more hw.kz hw.lu ey;have Eb:BY qO (.rf st.aQ.b st.aQ.r st.fn st.nt st.fr ps x y fd::k) none:=by
    refine⟨fun l r fn nt fr Xp x' y' Vm hm=>?_,rfl⟩;rcases List.mem_cons.1 hm with hm | hm
    ·cases hm;refine⟨qO,_,hl,Env.Le.refl _,MG,by simp,by rw [b3,O_],by rw [b3,YK],by rw [b3,Xo],?_⟩;rw [b3,YL];exact⟨rfl,GH.size,GH.aV⟩
    ·exact(fG.le hle).rf l r fn nt fr Xp x' y' Vm hm
   have qe:=A_ (Lb:=L) (ro:=ro) hT hn vW hf hb (a':={a with defers:=[]++a.defers}) vO
    (by simp only [SV.pw,SV.sc,ai,adX];exact⟨by omega,SV.eN dZ Iq⟩) w_ Eb (fG.le hle) MG (c_ dZ hw.lu)
    ⟨GH.defers,GH.size,GH.aV⟩ hle (fun _ _=>rfl) (by simp)
   rw [b2]at qe;have jC:(SV.bK qO (.Jp st.aQ.b::jB)).toArray= #[.func (.yield w.heap.size) #[] #[]]++(SV.bK ρ jB).toArray:=by
    simp only [SV.bK,SV.val,b2,(SV.fF ey Iq).1];simp
   rw [jC]at qe;rw [k4]at qe;exact qe
end
section
variable {P:Program} {C:Ctx} {ao:Value→List HP→Prop} {Fs:List HP} {w0:World}
theorem J6(hT:bw P C.T=true)(Ba:bb P C.FT)(Ec:gk P C)(hm:P.follows .mixedOrders=true)(n:Nat):qd P C ao Fs w0 n∧sq P C ao Fs w0 n∧GF P C ao Fs w0 n:=by
 induction n using Nat.strongRecOn with
 | _ n ih=>exact⟨Ed hT (fun m hm=>(ih m hm).1) (fun m hm=>(ih m hm).2.1) (fun m hm=>(ih m hm).2.2) (D_ hT Ba fun m hm=>(ih m hm).1),Ee hT Ba Ec (fun m hm=>(ih m hm).1) (fun m hm=>(ih m hm).2.1),D8 hT hm (fun m hm=>(ih m hm).2.1)⟩
theorem aq.eA(hT:bw P C.T=true)(Ba:bb P C.FT)(hm:P.follows .mixedOrders=true){f:Nat}{fd:Func}(hf:P.funcs[f]? =some fd){args:List SV}{hp:List Ck}{aQ:cz}{ρ:Env}(hl:gg ρ aQ)
  (h:VC P ao (cC C f args hp aQ fd) ρ fun _=>LC.none) (Ec:gk P C:=by exact gk.none rfl):aq P f (SV.bK ρ args) (hp.map (Ck.den ρ)) ao:=by
 intro w Fs cE;unfold cC at h;split at h
 case h_2=>exact h.elim
 rename_i c hb;split at h
 case isFalse=>exact h.elim
 rename_i iM;simp only [ai]at iM;have hw:HW Fs w {fn:=f,fr:=eo 0 args,hp:=hp,aQ:=aQ,nt:=⟨fd.ntmps,[]⟩} ρ w:=
  ⟨hl,xe args 0 iM.1,iM.2,rfl,fun b hb=>(by cases hb),cE,fQ.refl w,rfl⟩
 have Rm:=(J6 (ao:=ao) (Fs:=Fs) (w0:=w) hT Ba Ec hm 100000).1 none c _ _ ρ _ _ w h hw (yI args fd.ntmps) ⟨fun l r fn nt fr ps x y fd hm=>(by simp at hm),rfl⟩;have key: ∀a' w',At P C ao Fs w 100000 [.top fd] ρ (fun _=>LC.none) a' w'→LeavesInM (FW none) 0 P fd a'.tmps (fun e w'=> ∃v hs,e= .returned v∧ao v hs∧bd (hs++Fs) w'∧fQ w w') a'.defers .returning w':=by
  intro a' w' ⟨m,hm,df,bC,L',h1,h2,h3,h4,h5⟩;cases m with
  | zero=>exact h5.elim
  | succ m=>
   simp only [run]at h5;split at h5
   case h_2=>exact h5.elim
   rename_i D7 zY;have MC:D7.fr=df.fr:=by
    unfold mO at zY;rw [adM]at zY;obtain⟨jE,_,rfl⟩:=zY;rfl
   split at h5
   ·rename_i v hv;refine nu zY h3 h4 fun w2 D9=>?_
    exact⟨_,oN hT D9 (nt:=df.nt) (by rw [MC];exact h4) hv,_,_,rfl,h5,D9.own,D9.same⟩
   ·exact h5.elim
 have fin: ∀e a' w',QK P C ao Fs w 100000 [.top fd] ρ (fun _=>LC.none) e a' w'→bodyPostM (FW none) 0 P fd (fun e w'=> ∃v hs,e= .returned v∧ao v hs∧bd (hs++Fs) w'∧fQ w w') e a' w':=by
  intro e a' w' hq;obtain⟨k',hk,dM⟩:=hq;cases e with
  | normal=>cases hk;exact key a' w' dM
  | ret=>cases hk;exact key a' w' dM
  | exit id=>cases hk
  | goto l=>cases hk
  | panic l=>cases hk
  | outgrown=>cases hk
 have main:CallsIn (FW none) 0 P f (SV.bK ρ args).toArray w (fun e w'=> ∃v hs,e= .returned v∧ao v hs∧bd (hs++Fs) w'∧fQ w w'):=by
  refine callsIn_of_wp_marks hf hb trivial (wpIn_mono Rm ?_) rfl;exact fin
 have main':CallsIn Fence.wide 0 P f (SV.bK ρ args).toArray w (fun e w'=> ∃v hs,e= .returned v∧ao v hs∧bd (hs++Fs) w'∧fQ w w'):=main;exact callsIn_wide.1 main'
end
theorem bb.nil{P:Program}:bb P []:=fun x hx=>(by cases hx)
theorem bb.cons{P:Program}{FT:List (Nat×Func)}{f:Nat}{fd:Func}(h:P.funcs[f]? =some fd)(hn:(fd.name== "runtime.NumGoroutine")=false)(hr:bb P FT):bb P ((f,fd)::FT):=by
 intro x hx;rcases List.mem_cons.1 hx with rfl | hx
 ·exact⟨h,hn⟩
 ·exact hr x hx
def BE.GI(b:BE):Option Bool:=if b.sc {}then some (b.den ss)else none
def F.ji:F→Bool
 | .vc b r=>b.sure&&r.ji
 | .fork c t e=>match c.GI with
  | some true=>t.ji
  | some false=>e.ji
  | none=>t.ji&&e.ji
 | .ret (.bool b) _=>b.sure
 | .wD r=>r.ji
 | .xS r=>r.ji
 | .cg r=>r.ji
 | .uA _ r=>r.ji
 | .both a b=>a.ji&&b.ji
 | _=>false
theorem F.GJ{P:Program}{f:F}(ρ:Env)(L:Nat→LC)(h:f.ji=true):VC P (fun v _=>v= .bool true) f ρ L:=by
 induction f generalizing ρ L with
 | vc b r ih=>
  simp only [F.ji,ai]at h;exact⟨(BE.bY ρ b).1 (uW h.1 ρ),fun _=>ih ρ L h.2⟩
 | fork c t e O2 O3=>
  simp only [F.ji]at h;split at h
  ·rename_i hc;unfold BE.GI at hc;split at hc
   ·rename_i hs;simp only [adK]at hc;exact⟨fun _=>O2 ρ L h,fun hn=>absurd ((BE.bY ρ c).1 (by rw [oO hs];exact hc)) hn⟩
   ·cases hc
  ·rename_i hc;unfold BE.GI at hc;split at hc
   ·rename_i hs;simp only [adK]at hc;refine⟨fun hn=>?_,fun _=>O3 ρ L h⟩;have:=(BE.bY ρ c).2 hn;rw [oO hs,hc]at this;cases this
   ·cases hc
  ·simp only [ai]at h;exact⟨fun _=>O2 ρ L h.1,fun _=>O3 ρ L h.2⟩
 | ret v hp=>
  cases v with
  | bool b=>simp only [F.ji]at h;simp only [VC,SV.val,uW h ρ]
  | _=>simp [F.ji]at h
 | wD r ih=>exact fun _=>ih _ L h
 | xS r ih=>exact fun _=>ih _ L h
 | cg r ih=>exact ih _ L h
 | uA b r ih=>cases b with
  | true=>exact fun _ _ _=>ih _ L h
  | false=>exact fun _ _=>ih _ L h
 | fail=>simp [F.ji]at h
 | call=>simp [F.ji]at h
 | ext=>simp [F.ji]at h
 | loop=>simp [F.ji]at h
 | back=>simp [F.ji]at h
 | join=>simp [F.ji]at h
 | meet=>simp [F.ji]at h
 | ghost=>simp [F.ji]at h
 | both a b lF rU=>
  simp only [F.ji,ai]at h;exact⟨lF ρ L h.1,rU ρ L h.2⟩
theorem aq.law{P:Program}{f:Nat}{args:List Value}{pre:List HP}(h:aq P f args pre fun v _=>v= .bool true)(w:World)(cE:bd (pre++[BF w.heap.size w]) w):
  Calls P f args.toArray w fun e w'=>e= .returned (.bool true)∧RowKit.Below w.heap.size w w':=by
 refine(h w _ cE).mono ?_;rintro e w' ⟨v,hs,rfl,rfl,⟨S,hS⟩,yK⟩;refine⟨rfl,?_⟩;have:=(hS.at_ hs.length (BF w.heap.size w) (by simp)).1;exact⟨yK.os,yK.tape,yK.output,yK.size,fun k hk=>this.2 k hk⟩
end Go.RX
