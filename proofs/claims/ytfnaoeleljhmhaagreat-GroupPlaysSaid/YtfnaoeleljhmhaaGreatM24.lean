/- A reflective symbolic executor, part 25d: regions whose order is drawn: effects; the whole. · A reflective symbolic executor, part 25e: the statement that ranges over a function. -/
import Derived.Test.YtfnaoeleljhmhaaGreatM23

namespace Go.RX
section
variable {P:Program} {C:Ctx} {Post:Value→List HP→Prop} {Fs:List HP} {w0:World} {all:Array Oper} {pm:List Nat}
variable {ro:Option Nat} {nt:NT} {a0:Act} {listed:Array Bool} {a:Act} {w:World} {rest:List Nat} {done:Nat} {log:List (Nat×List Nat)} {st:St} {ρ:Env} {W:List Wr}
theorem Oper.wpIn_put{F:Fence}{n:Nat}{o:Oper}{K:Act→World→Prop}{Q:Exit→Act→World→Prop}(hh:o.wpIn F n P a w K Q):
  o.wpIn F n P a w (fun a' w'=>K a' w'∧(a'.defers≠a.defers∨∃u,a'=a.put o.dst u)) Q:=by
 unfold Oper.wpIn at*;refine⟨hh.1,?_⟩;have hh:=hh.2;generalize (o.semAt F.round a.eval).run P w=r at*;cases r with
 | ok x w'=>
  cases x<;>simp only [Oper.uponIn]at hh ⊢ <;>
   first
    | exact⟨hh,.inr ⟨_,rfl⟩⟩
    | exact⟨hh,.inl (by rw [put_defers];simp)⟩
    | exact⟨hh.1,CallsIn.mono hh.2 (fun e w'' he=>by cases e<;>first | exact⟨he,.inr ⟨_,rfl⟩⟩ | exact he)⟩
    | exact⟨hh.1,RowsIn.mono hh.2 (fun _ _ he=>⟨he,.inr ⟨_,rfl⟩⟩)⟩
    | exact⟨hh.1,RoundIn.mono hh.2 (fun e w'' he=>by cases e<;>first | exact⟨he,.inr ⟨_,rfl⟩⟩ | exact he)⟩
    | exact hh
 | halt x w'=>cases x<;>simp only [Oper.uponIn]at hh ⊢ <;>exact hh
theorem Oper.wpIn_mono3{F:Fence}{n:Nat}{o:Oper}{K K':Act→World→Prop}{Q Q':Exit→Act→World→Prop}(h: ∀a w,K a w→K' a w)(hq: ∀c a w,¬Q (.panic c) a w)(ho: ¬LetsOut Q)
  (hh:o.wpIn F n P a w K Q):o.wpIn F n P a w K' Q':=by
 unfold Oper.wpIn at*;refine⟨hh.1,?_⟩;have hh:=hh.2;generalize (o.semAt F.round a.eval).run P w=r at*;cases r with
 | ok x w'=>
  cases x<;>simp only [Oper.uponIn]at hh ⊢ <;>
   first
    | exact h _ _ hh
    | exact⟨hh.1,CallsIn.mono hh.2 (fun e w'' he=>by cases e<;>first | exact h _ _ he | exact absurd he (hq _ _ _) | exact absurd he ho)⟩
    | exact⟨hh.1,RowsIn.mono hh.2 (fun _ _ he=>h _ _ he)⟩
    | exact⟨hh.1,RoundIn.mono hh.2 (fun e w'' he=>by cases e<;>first | exact h _ _ he | exact absurd he (hq _ _ _) | exact absurd he ho)⟩
 | halt x w'=>cases x<;>simp only [Oper.uponIn]at hh ⊢ <;>first | exact absurd hh (hq _ _ _) | exact hh
theorem kept_spec{c:Cnt}{hp hp':List Ck}{rd:List Nat}{ρ ρ':Env}(h:kept c hp hp' rd=true)(hag:Agree c ρ ρ'){j:Nat}(hj:j∈rd){a:Ck}(ha:hp[j]? =some a):
  ∃b,hp'[j]? =some b∧b.den ρ'=a.den ρ:=by
 have h1:=List.all_eq_true.1 h j hj;simp only [ha]at h1;split at h1
 ·rename_i x b hx hb;cases hx;split at h1
  ·rename_i l hl;refine⟨b,hb,(unifyCk_sound hag.va hl fun y hy=>trivial_holds hag (List.all_eq_true.1 h1 y hy)).symm⟩
  ·cases h1
 ·rename_i hx;cases hx
 ·cases h1
theorem DI.effect{n:Nat}(IHo:SoundO P C Post Fs w0 n){k:List KI}(hstk:Stk ρ k ro)(h:DI P Fs w0 all ro nt a0 listed a w rest done log st ρ W)(hord:orderedB all pm=true)(hpm:pmOk all pm=true){e:Nat}{o:Oper}(he:all[e]? =some o)(her:e∈rest)
  (hnl:lst listed e=false) (hready: ∀x∈o.after,Region.binds .any x=true→lst listed x.on=true) (hdst:okDst st o.dst=true) {L:Nat→LC}
  (hv:VC P Post (run C n (.ops all [o]:: .dret all pm e rest done log st.fn st.nt st.fr st.hp st.cnt::k) {st with fr:=restrict st.fr (slotsOf all o)}) ρ L) (Q:Exit→Act→World→Prop) (K:Act→World→Prop)
  (hK: ∀a' w',(∃m,m<n∧∃rest done log st ρ' L' W,VC P Post (run C m (.dops all pm rest done log::k) st) ρ' L'∧Env.Le ρ ρ'∧(∀j,j<nl k→L' j=L j)∧DI P Fs w0 all ro nt a0 (listed.setIfInBounds e true) a' w' rest done log st ρ' W)→K a' w'):
  wpOpIn (FW ro) 0 P all Q e K a w:=by
 have heW:e ∉ W.map (·.1):=((h.rest e).1 her).2;have hel:e<listed.size:=by rw [h.lsz];exact(Array.getElem?_eq_some_iff.1 he).1
 have hdef:a.defers=(puts a0 W).defers:=by rw [h.act,puts_defers,puts_defers]
 have hsz:nt.n≤a.tmps.size:=by rw [h.act,puts_size,←puts_size W];exact h.ha.size
 have ha:HA (restrict st.fr (slotsOf all o)) nt ρ a:=by
  refine restrict_HA h.ha (fun s hs=>?_) hdef hsz;rw [h.act];have:=agree_slots (a0:=a0) (listed:=listed) (W1:=W) (tail:=[]) (s:=s) (fun y hy hys=>h.before hord hpm he hready (tail:=[]) (by simp) heW (.inl hs) y hy hys) (fun y hy=>by cases hy)
  rwa [List.append_nil]at this
 have hw:HW Fs w0 {st with fr:=restrict st.fr (slotsOf all o)} ρ w:=
  ⟨h.hw.lens,List.all_eq_true.2 fun x hx=>List.all_eq_true.1 h.hw.scf x (List.mem_filter.1 hx).1,h.hw.sch,h.hw.sck,h.hw.kn,h.hw.own,h.hw.same,h.hw.scd⟩
 have hwp:=IHo ro all [o] _ _ ρ L a w hv hw (by rw [show({st with fr:=restrict st.fr (slotsOf all o)}:St).nt=st.nt from rfl,h.hnt];exact ha) (hstk.push rfl);have fin: ∀a' w',QK P C Post Fs w0 n (.dret all pm e rest done log st.fn st.nt st.fr st.hp st.cnt::k) ρ L .normal a' w'→(a'.defers≠a.defers∨∃u,a'=a.put o.dst u)→K a' w':=by
  intro a' w' hq hor;obtain⟨k',hk,m,hm,st',ρ',L',g1,g2,g3,g4,g5⟩:=hq;cases hk;cases m with
  | zero=>exact g5.elim
  | succ m=>
   simp only [run,he]at g5;split at g5
   case isFalse=>exact g5.elim
   rename_i hlog;rw [Bool.and_eq_true,beq_iff_eq]at hlog;obtain⟨hlog,hnt'⟩:=hlog;obtain⟨u,rfl⟩: ∃u,a'=a.put o.dst u:=by
    rcases hor with hor | hor
    ·rw [g4.defers,hdef,h.ha.defers,hnt',h.hnt]at hor;exact absurd (marks_sc (Env.Le.agree h.hw.lens g1) (by rw [←h.hnt];exact h.hw.scd)).symm hor
    ·exact hor
   split at g5
   case h_2=>exact g5.elim
   rename_i v hv';have hag:=Env.Le.agree h.hw.lens g1;have hcl:=Lens.le h.hw.lens g3.lens g1;have hvs:v.sc st'.cnt=true:=by
    cases hd:o.dst with
    | none=>rw [hd]at hv';simp only [Option.some.injEq]at hv';subst hv';rfl
    | some d=>rw [hd]at hv';exact look_sc g3.scf hv'
   have hw3:HW Fs w0 (setNt st' st.fn st.nt st.fr) ρ' w':=⟨g3.lens,frSc_mono hcl h.hw.scf,g3.sch,g3.sck,g3.kn,g3.own,g3.same,dsc_mono hcl h.hw.scd⟩;have hpr:=put_rest (setNt st' st.fn st.nt st.fr) o.dst v;have hlst: ∀j,lst (listed.setIfInBounds e true) j=(decide (e=j)||lst listed j):=fun j=>lst_set hel
   refine hK _ _ ⟨m,by omega,_,_,_,_,ρ',L',W++[(e,o.dst,u)],g5,g1,g2,?_⟩;refine⟨hw3.put hvs,by rw [hpr.2.2.2.1];exact h.hnt,?_,?_,?_,?_,?_,?_,by simp [h.lsz],?_,?_,?_⟩
   ·have f1:W.filter (fun y=>lst (listed.setIfInBounds e true) y.1)=W.filter (fun y=>lst listed y.1):=List.filter_congr fun y hy=>by
     have:e≠y.1:=fun ee=>heW (by rw [ee];exact List.mem_map.2 ⟨y,hy,rfl⟩)
     rw [hlst];simp [this]
    rw [List.filter_append,f1,List.filter_cons_of_pos (by rw [hlst];simp),List.filter_nil,puts_append,puts_one,←h.act]
   ·rw [puts_append,puts_one];have ha3:=h.ha.more h.hw.scf (by rw [←h.hnt];exact h.hw.scd) hag;cases hd:o.dst with
    | none=>exact ha3
    | some d=>
     have hdl:d<nt.n:=by rw [←h.hnt];exact okDst_lt hdst d hd
     refine HA.put ha3 (fun x hx=>by cases hx;exact hdl) ?_ _ rfl;rw [hd]at hv';have:=g4.slots d v hv';rw [hd,put_self a d u (Nat.lt_of_lt_of_le hdl hsz)]at this;exact this
   ·rw [List.map_append,List.nodup_append];exact⟨h.nd,by simp,fun x hx y hy=>by
     simp only [List.map_cons,List.map_nil,List.mem_singleton]at hy;subst hy;intro hxy;subst hxy;exact heW hx⟩
   ·intro j;rw [testBit_set,Bool.or_eq_true,h.done,List.map_append,List.mem_append];simp only [decide_eq_true_eq,List.map_cons,List.map_nil,List.mem_singleton];exact⟨fun hj=>hj.imp id Eq.symm,fun hj=>hj.imp id Eq.symm⟩
   ·intro j;rw [List.mem_filter,h.rest,List.map_append,List.mem_append];simp only [bne_iff_ne,ne_eq,List.map_cons,List.map_nil,List.mem_singleton,not_or,and_assoc]
   ·intro j hj;rw [List.map_append,List.mem_append];rw [hlst,Bool.or_eq_true]at hj;rcases hj with hj | hj
    ·right;rw [←of_decide_eq_true hj];simp
    ·exact .inl (h.sub j hj)
   ·intro p op hop hp x hx hb;rw [hlst,Bool.or_eq_true]at hp ⊢;rcases hp with hp | hp
    ·have:=of_decide_eq_true hp;subst this;rw [he]at hop;cases hop;exact .inr (hready x hx hb)
    ·exact .inr (h.clL p op hop hp x hx hb)
   ·intro W1 x W2 hW;rcases snoc_cases hW with⟨rfl,rfl,rfl⟩ | ⟨W2',rfl,hW'⟩
    ·exact⟨o,he,rfl,fun x hx hb=>h.sub _ (hready x hx hb)⟩
    ·exact h.clW W1 x W2' hW'
   ·intro W1 x W2 hW hnlx;rcases snoc_cases hW with⟨rfl,rfl,rfl⟩ | ⟨W2',rfl,hW'⟩
    ·rw [hlst]at hnlx;simp at hnlx
    ·rw [hlst,Bool.or_eq_false_iff]at hnlx;obtain⟨o',rd,hp,ρ1,h1,h2,h3,h4⟩:=h.pend W1 x W2' hW' hnlx.2;refine⟨o',rd,hp,ρ1,h1,h2,h3,fun j hj ck hck=>?_⟩;obtain⟨ck',hck',hden⟩:=h4 j hj ck hck;have hx:=List.all_eq_true.1 hlog _ h2;simp only [Bool.or_eq_true]at hx;rcases hx with hx | hx
     ·have hxl:x.1<all.size:=(Array.getElem?_eq_some_iff.1 h1).1;have:=ahead_pm hpm (fun q=>lst listed q=true) h.clL he hready hxl hx;rw [hnlx.2]at this;cases this
     ·obtain⟨b,hb,hbd⟩:=kept_spec hx hag hj hck';exact⟨b,by rw [hpr.1];exact hb,by rw [hbd,hden]⟩
 unfold wpOpIn;simp only [he];unfold wpListIn at hwp;split
 ·rename_i hwant;rw [if_pos hwant]at hwp;refine Oper.wpIn_mono3 (fun a' w' hh=>fin a' w' hh.1 hh.2) (fun c a' w' hq=>?_) (fun hq=>?_) (Oper.wpIn_put hwp)
  ·obtain⟨k',hk,_⟩:=hq;cases hk
  ·obtain⟨_,_,k',hk,_⟩:=hq;cases hk
 ·rename_i hwant;rw [if_neg hwant]at hwp;exact⟨hwp.1,fin _ _ hwp.2 (.inr ⟨undef,rfl⟩)⟩
theorem DI.descend(hT:checkT P C.T=true){k:List KI}{L:Nat→LC}: ∀{m:Nat} {rest:List Nat} {done:Nat} {log:List (Nat×List Nat)} {st:St} {W:List Wr},
  VC P Post (run C m (.dops all pm rest done log::k) st) ρ L→DI P Fs w0 all ro nt a0 listed a w rest done log st ρ W→
  ∃m',m'≤m∧∃rest done log st W,VC P Post (run C m' (.dops all pm rest done log::k) st) ρ L∧DI P Fs w0 all ro nt a0 listed a w rest done log st ρ W∧
   (rest=[]∨(rest.find? fun i=>isQuiet all i&&readyB all done i)=none)
 | 0,rest,done,log,st,W,hv,_=>hv.elim
 | m+1,[],done,log,st,W,hv,h=>⟨m+1,Nat.le_refl _,[],done,log,st,W,hv,h,.inl rfl⟩
 | m+1,x::r,done,log,st,W,hv,h=>by
  cases hf:(x::r).find? fun i=>isQuiet all i&&readyB all done i with
  | none=>exact⟨m+1,Nat.le_refl _,x::r,done,log,st,W,hv,h,.inr hf⟩
  | some i=>
   have hmem:=List.mem_of_find?_eq_some hf;have hcond:=List.find?_some hf;simp only [Bool.and_eq_true]at hcond;simp only [run,hf]at hv;split at hv
   case h_2=>exact hv.elim
   rename_i o ho;split at hv
   case isFalse=>exact hv.elim
   rename_i hdst;split at hv
   ·exact hv.elim
   ·rename_i g hg;split at hv
    case isFalse=>exact hv.elim
    rename_i hgs;split at hv
    case h_2=>exact hv.elim
    rename_i res hres;split at hv
    case h_2=>exact hv.elim
    rename_i heff;obtain⟨hvc,hv⟩:=wrapVc_sound h.hw.kn hv;obtain⟨m',hm',q⟩:=DI.descend hT hv (h.quiet hT hmem hcond.2 ho hdst hg hgs hres heff hvc);exact⟨m',by omega,q⟩
def unl(all:Array Oper)(listed:Array Bool):Nat:=(List.range all.size).countP fun i=> !lst listed i
theorem unl_set(hl:listed.size=all.size){i:Nat}(hi:i<all.size)(hn:lst listed i=false):unl all (listed.setIfInBounds i true)+1≤unl all listed:=by
 unfold unl;have key: ∀(l:List Nat),l.Nodup→i∈l→l.countP (fun j=> !lst (listed.setIfInBounds i true) j)+1≤l.countP (fun j=> !lst listed j):=by
  intro l
  induction l with
  | nil=>intro _ h;cases h
  | cons x r ih=>
   intro hnd hm;rw [List.nodup_cons]at hnd;rw [List.countP_cons,List.countP_cons,lst_set (by omega)];by_cases hx:i=x
   ·subst hx;have:r.countP (fun j=> !lst (listed.setIfInBounds i true) j)=r.countP (fun j=> !lst listed j):=List.countP_congr fun j hj=>by
     have:i≠j:=fun e=>hnd.1 (e▸hj)
     rw [lst_set (by omega)];simp [this]
    rw [this];simp [hn]
   ·have hm':i∈r:=(List.mem_cons.1 hm).resolve_left hx;have:=ih hnd.2 hm';simp only [hx,decide_false,Bool.false_or];omega
 exact key _ List.nodup_range (List.mem_range.2 hi)
theorem unl_zero(h:unl all listed=0): ∀i,i<all.size→lst listed i=true:=by
 intro i hi;unfold unl at h;rw [List.countP_eq_zero]at h;have:=h i (List.mem_range.2 hi);simpa using this
theorem DI.ready_nil(h:DI P Fs w0 all ro nt a0 listed a w rest done log st ρ W)(hpm:pmOk all pm=true)(hr:Region.ready .any all listed=[]): ∀i,i<all.size→lst listed i=true:=by
 intro i
 induction i using Nat.strongRecOn with
 | _ i ih=>
  intro hi;cases hl:lst listed i with
  | true=>rfl
  | false=>
   have hoi:all[i]? =some all[i]:=Array.getElem?_eq_getElem hi;have:i∈Region.ready .any all listed:=by
    rw [mem_ready];refine⟨?_,_,hoi,fun e he hb=>?_⟩
    ·have hil:i<listed.size:=by rw [h.lsz];exact hi
     unfold lst at hl;rw [Array.getD_eq_getD_getElem?,Array.getElem?_eq_getElem hil]at hl ⊢;exact hl
    ·have:=(pmOk_spec hpm hoi).1 e he hb;exact ih e.on this (by omega)
   rw [hr]at this;cases this
theorem allDone{listed:Array Bool}{a:Act}{w:World}{m:Nat}{n:Nat}{rest:List Nat}{done:Nat}{log:List (Nat×List Nat)}{st:St}{ρ:Env}{W:List Wr}{k:List KI}{L:Nat→LC}{ρb:Env}{Lb:Nat→LC}
  (hall: ∀i,i<all.size→lst listed i=true) (hm:m≤n) (hv:VC P Post (run C m (.dops all pm rest done log::k) st) ρ L) (hle:Env.Le ρb ρ) (hL: ∀j,j<nl k→L j=Lb j)
  (h:DI P Fs w0 all ro nt a0 listed a w rest done log st ρ W):QK P C Post Fs w0 n k ρb Lb .normal a w:=by
 have hre:rest=[]:=by
  cases hr:rest with
  | nil=>rfl
  | cons x r=>
   have:=(h.rest x).1 (by rw [hr];exact List.mem_cons_self);exact absurd (h.sub x (hall x this.1)) this.2
 subst hre;cases m with
 | zero=>exact hv.elim
 | succ m=>
  simp only [run]at hv;have hW:W.filter (fun x=>lst listed x.1)=W:=by
   rw [List.filter_eq_self];intro x hx;obtain⟨A,B,hAB⟩:=List.append_of_mem hx;obtain⟨o,ho,_⟩:=h.clW A x B hAB;exact hall x.1 (Array.getElem?_eq_some_iff.1 ho).1
  have hact:=h.act;rw [hW]at hact;refine⟨k,rfl,m,by omega,st,ρ,L,hle,hL,h.hw,?_,hv⟩;rw [hact,h.hnt];exact h.ha
theorem bothF_mem{ρ:Env}{L:Nat→LC}: ∀{l:List F},VC P Post (bothF l) ρ L→∀x∈l,VC P Post x ρ L
 | [],h,_,_=>h.elim
 | [x],h,y,hy=>by
  rw [List.mem_singleton]at hy;exact hy▸h
 | x::y::r,h,z,hz=>by
  rcases List.mem_cons.1 hz with rfl | hz
  ·exact h.1
  ·exact bothF_mem h.2 z hz
theorem dops_any(hT:checkT P C.T=true){n:Nat}(IHo: ∀m,m<n→SoundO P C Post Fs w0 m)(hord:orderedB all pm=true)(hpm:pmOk all pm=true){k:List KI}{ρb:Env}{Lb:Nat→LC}(hstk:Stk ρb k ro):
  ∀(fuel:Nat) (listed:Array Bool) (a:Act) (w:World),unl all listed≤fuel→
   (∃m,m≤n∧∃rest done log st ρ L W,VC P Post (run C m (.dops all pm rest done log::k) st) ρ L∧Env.Le ρb ρ∧(∀j,j<nl k→L j=Lb j)∧DI P Fs w0 all ro nt a0 listed a w rest done log st ρ W)→
   wpAnyIn (FW ro) 0 P .any all (QK P C Post Fs w0 n k ρb Lb) fuel listed a w:=by
 intro fuel
 induction fuel with
 | zero=>
  intro listed a w hf ⟨m,hm,rest,done,log,st,ρ,L,W,hv,hle,hL,h⟩;have hall:=unl_zero (Nat.le_zero.1 hf);refine⟨?_,?_⟩
  ·cases hr:Region.ready .any all listed with
   | nil=>rfl
   | cons i r=>
    have:i∈Region.ready .any all listed:=by rw [hr];exact List.mem_cons_self
    rw [mem_ready]at this;obtain⟨h0,o,ho,_⟩:=this;have hi:i<all.size:=(Array.getElem?_eq_some_iff.1 ho).1;have hl:=hall i hi;unfold lst at hl;have hil:i<listed.size:=by rw [h.lsz];exact hi
    rw [Array.getD_eq_getD_getElem?,Array.getElem?_eq_getElem hil]at hl h0;simp at hl h0;rw [hl]at h0;cases h0
  ·exact allDone hall hm hv hle hL h
 | succ fuel ih=>
  intro listed a w hf ⟨m,hm,rest,done,log,st,ρ,L,W,hv,hle,hL,h⟩;refine⟨fun hr=>allDone (h.ready_nil hpm hr) hm hv hle hL h,fun i hi=>?_⟩;rw [mem_ready]at hi;obtain⟨h0,o,ho,hpre⟩:=hi;have hil:i<all.size:=(Array.getElem?_eq_some_iff.1 ho).1;have hnl:lst listed i=false:=by
   have:i<listed.size:=by rw [h.lsz];exact hil
   unfold lst;rw [Array.getD_eq_getD_getElem?,Array.getElem?_eq_getElem this]at h0 ⊢;exact h0
  have hlow:unl all (listed.setIfInBounds i true)≤fuel:=by
   have:=unl_set h.lsz hil hnl;omega
  obtain⟨m',hm',rest',done',log',st',W',hv',h',hmax⟩:=DI.descend hT hv h;by_cases hiW:i∈W'.map (·.1)
  ·exact h'.pending hord hpm ho hnl hpre hiW _ _ fun a' hD=>ih _ _ _ hlow ⟨m',by omega,rest',done',log',st',ρ,L,W',hv',hle,hL,hD⟩
  ·have hir:i∈rest':=(h'.rest i).2 ⟨hil,hiW⟩;have hrd:readyB all done' i=true:=readyB_of ho fun e he hb=>(h'.done _).2 (h'.sub _ (hpre e he hb))
   rcases hmax with rfl | hmax
   ·cases hir
   ·cases m' with
    | zero=>exact hv'.elim
    | succ m'=>
     cases hre:rest' with
     | nil=>rw [hre]at hir;cases hir
     | cons x r=>
      rw [hre]at hv' hmax;simp only [run,hmax]at hv';have hiL:i∈(x::r).filter (readyB all done'):=List.mem_filter.2 ⟨hre▸hir,hrd⟩;have hv':=bothF_mem hv' _ (List.mem_map.2 ⟨i,hiL,rfl⟩);simp only [ho]at hv';split at hv'
      case isFalse=>exact hv'.elim
      rename_i hdst;rw [←hre]at hv';refine DI.effect (IHo m' (by omega)) (hstk.le hle) h' hord hpm ho hir hnl hpre hdst hv' _ _ fun a' w' hq=>ih _ _ _ hlow ?_
      obtain⟨m2,hm2,rest2,done2,log2,st2,ρ2,L2,W2,q1,q2,q3,q4⟩:=hq;exact⟨m2,by omega,rest2,done2,log2,st2,ρ2,L2,W2,q1,hle.trans q2,fun j hj=>(q3 j hj).trans (hL j hj),q4⟩
theorem HW.drew(h:HW Fs w0 st ρ w)(d:Nat):HW Fs w0 st ρ {w with drawn:=d}:=by
 refine⟨h.lens,h.scf,h.sch,h.sck,h.kn,?_,h.same.trans ⟨rfl,rfl,rfl,Nat.le_refl _⟩,h.scd⟩;obtain⟨S,hS⟩:=h.own;exact⟨S,hS.keep (Nat.le_refl _) fun _ _=>rfl⟩
theorem soundD_step(hT:checkT P C.T=true)(hm:P.follows .mixedOrders=true){n:Nat}(IHo: ∀m,m<n→SoundO P C Post Fs w0 m):SoundD P C Post Fs w0 n:=by
 intro ro id all pm k st ρ L a w hv hord hpm hw ha hstk;refine wpIn_region_any hm (dops_any (ro:=ro) (nt:=st.nt) (a0:=a) hT IHo hord hpm hstk _ _ _ _ ?_ ⟨n,Nat.le_refl _,_,_,_,_,ρ,L,[],hv,Env.Le.refl _,fun _ _=>rfl,?_⟩)
 ·unfold unl;exact Nat.le_trans List.countP_le_length (by simp)
 ·have hno: ∀i,lst (Array.replicate all.size false) i=false:=by
   intro i;unfold lst;rw [Array.getD_eq_getD_getElem?];by_cases hi:i<all.size
   ·simp [hi]
   ·rw [Array.getElem?_eq_none (by simpa using hi)];rfl
  refine⟨hw.drew _,rfl,rfl,ha,List.nodup_nil,fun i=>by simp,fun i=>by simp,fun i hi=>?_,by simp,fun p o _ hp=>?_,fun W1 x W2 hW=>?_,fun W1 x W2 hW=>?_⟩
  ·rw [hno]at hi;cases hi
  ·rw [hno]at hp;cases hp
  ·simp at hW
  ·simp at hW
end
end Go.RX

namespace Go.RX
section
variable {P:Program} {C:Ctx} {Post:Value→List HP→Prop} {Fs:List HP} {w0:World}
theorem inline_rf(hT:checkT P C.T=true){n N:Nat}(hnN:n<N)(IHc: ∀m,m<N→SoundC P C Post Fs w0 m){ro:Option Nat}{c:Code}{fd:Func}{f:Nat}(hf:P.funcs[f]? =some fd)(hb:fd.body=some c){k:List KI}{st:St}{ρ ρb:Env}{L Lb:Nat→LC}{w:World}
  {az:List SV} {l r fn:Nat} {nt:NT} {fr:List (Nat×SV)} {ps:Array Tmp} {x y:Code} {a':Act}
  (hv:VC P Post (run C n (.code c:: .rf l r fn nt fr ps x y fd::k) (setNt st f ⟨fd.ntmps,[]⟩ (enumFrom 0 az))) ρ L) (hsc:SV.scL st.cnt az=true) (hw:HW Fs w0 st ρ w)
  (hstk:Stk ρ (.rf l r fn nt fr ps x y fd::k) none) (hstkk:Stk ρ k ro) (hfr:frSc st.cnt fr=true) (hds:nt.ds.all (MK.sc st.cnt)=true) (ha:HA fr nt ρ a') (hle:Env.Le ρb ρ) (hL: ∀j,j<nl k→L j=Lb j) (hl:l<st.cnt.b):
  CallsIn (FW none) 0 P f (SV.vals ρ az).toArray w (rangePost (FW ro) 0 P (ρ.bv.getD l 0) (QK P C Post Fs w0 N k ρb Lb) a'):=by
 refine callsIn_of_wp_marks hf hb trivial ?_ rfl;have hw':HW Fs w0 (setNt st f ⟨fd.ntmps,[]⟩ (enumFrom 0 az)) ρ w:=⟨hw.lens,enum_sc az 0 hsc,hw.sch,hw.sck,hw.kn,hw.own,hw.same,rfl⟩;refine wpIn_mono (IHc n hnN none c _ _ ρ L _ w hv hw' (enter_HA az fd.ntmps) hstk) ?_;have key: ∀a1 w1,At P C Post Fs w0 n (.rf l r fn nt fr ps x y fd::k) ρ L a1 w1→LeavesInM (FW none) 0 P fd a1.tmps (rangePost (FW ro) 0 P (ρ.bv.getD l 0) (QK P C Post Fs w0 N k ρb Lb) a') a1.defers .returning w1:=by
  intro a1 w1 ⟨m,hm,st',ρ',L',h1,h2,h3,h4,h5⟩;cases m with
  | zero=>exact h5.elim
  | succ m=>
   simp only [run]at h5;split at h5
   case h_2=>exact h5.elim
   rename_i st2 hlv;have hst2:st2.fr=st'.fr∧st2.nt=st'.nt∧st2.cnt=st'.cnt:=by
    unfold leaveSt at hlv;rw [Option.map_eq_some_iff]at hlv;obtain⟨hp',_,rfl⟩:=hlv;exact⟨rfl,rfl,rfl⟩
   split at h5
   case h_2=>exact h5.elim
   rename_i v i r' s j hv hrec;split at h5
   ·exact h5.elim
   ·rename_i hbusy;refine leaveSt_sound hlv h3 h4 fun w2 hw2=>?_
    refine⟨_,resAll_sound hT hw2 (nt:=st'.nt) (by rw [hst2.1];exact h4) hv,?_⟩;have hblk:=rec_block hw2 hrec;have hbv:ρ'.bv.getD l 0=ρ.bv.getD l 0:=((Env.Le.agree hw.lens h1).b l hl).symm;rw [hbv]at hblk;refine⟨j.code,_,run_endLoop hblk (by cases s<;>first | (simp [RS.st];done) | exact absurd rfl hbusy),?_⟩;have hw3:=rec_set hw2 hrec .exhausted j;rw [hbv]at hw3;have hcl:=Lens.le hw.lens hw2.lens h1;have hw4:HW Fs w0 (setNt {st2 with hp:=st2.hp.set i (.lrec l r' .exhausted j)} fn nt fr) ρ' _:=⟨hw3.lens,frSc_mono hcl hfr,hw3.sch,hw3.sck,hw3.kn,hw3.own,hw3.same,dsc_mono hcl hds⟩;have ha4:HA fr nt ρ' a':=ha.more hfr hds (Env.Le.agree hw.lens h1);have hL': ∀q,q<nl k→L' q=Lb q:=fun q hq=>(h2 q hq).trans (hL q hq)
    cases j with
    | none=>
     exact⟨k,rfl,m,by omega,_,ρ',L',hle.trans h1,hL',hw4,ha4,h5⟩
    | ret=>
     exact wpIn_mono (IHc m (by omega) ro .ret k _ ρ' L' a' _ h5 hw4 ha4 (hstkk.le h1)) fun e a w hq=>hq.mono (by omega) (hle.trans h1) hL'
    | exit id=>
     exact wpIn_mono (IHc m (by omega) ro (.exit id) k _ ρ' L' a' _ h5 hw4 ha4 (hstkk.le h1)) fun e a w hq=>hq.mono (by omega) (hle.trans h1) hL'
 intro e a1 w1 hq;obtain⟨k',hk,hat⟩:=hq;cases e with
 | normal=>cases hk;exact key a1 w1 hat
 | ret=>cases hk;exact key a1 w1 hat
 | exit id=>cases hk
 | goto l=>cases hk
 | panic l=>cases hk
 | outgrown=>cases hk
theorem lens_rec1{ρ:Env}{c:Cnt}(h:Lens ρ c)(l:Nat)(q:Loop):Lens (ρ.ext ⟨[l],[],[],[],[],[],[q]⟩) {c with b:=c.b+1,r:=c.r+1}:=
 ⟨by simp [Env.ext,h.b],by simp [Env.ext,h.v],by simp [Env.ext,h.i],by simp [Env.ext,h.a],by simp [Env.ext,h.bo],by simp [Env.ext,h.p],by simp [Env.ext,h.r]⟩
theorem lens_rec2{ρ:Env}{c:Cnt}(h:Lens ρ c)(d l:Nat)(q:Loop):Lens (ρ.ext ⟨[d,l],[],[],[],[],[],[q]⟩) {c with b:=c.b+2,r:=c.r+1}:=
 ⟨by simp [Env.ext,h.b],by simp [Env.ext,h.v],by simp [Env.ext,h.i],by simp [Env.ext,h.a],by simp [Env.ext,h.bo],by simp [Env.ext,h.p],by simp [Env.ext,h.r]⟩
theorem alloc_same(w:World)(o:Obj):Same w (w.alloc o):=⟨rfl,rfl,rfl,by simp⟩
theorem soundR_step(hT:checkT P C.T=true)(hFT:FTOk P C.FT){n:Nat}(IHc: ∀m,m<n→SoundC P C Post Fs w0 m):SoundR P C Post Fs w0 n:=by
 intro ro g ps x y k st ρ L a w hv hw ha hstk;cases n with
 | zero=>exact hv.elim
 | succ n=>
  have hn:n<n+1:=Nat.lt_succ_self n;simp only [run]at hv;split at hv
  case h_2=>exact hv.elim
  rename_i f caps hg;have hev:=opEval_spec ha.eval hg;split at hv
  ·exact hv.elim
  rename_i fd hfind;have hmem:=List.mem_of_find?_eq_some hfind;have hx1:=List.find?_some hfind;simp only [beq_iff_eq]at hx1;obtain⟨hf,hname⟩:=hFT _ hmem;simp only at hf hname;rw [hx1]at hf;split at hv
  ·exact hv.elim
  rename_i c hb;split at hv
  case isFalse=>exact hv.elim
  rename_i hcaps;have hname': ¬fd.name= "runtime.NumGoroutine" :=by simpa using hname
  have hres: ∀(l:Nat) (w1:World),(resolve a.eval (rangeCall g l) 0).run P w1= .ok {target:= .fn (.func f) (SV.vals ρ caps).toArray,args:= #[.func (.yield l) #[] #[]]} w1:=by
   intro l w1;simp only [resolve,hev,SV.val,Deferred.ofValue];simp [Act.eval]
  have hinv: ∀(l:Nat) (w1:World),(invoke (.fn (.func f) (SV.vals ρ caps).toArray) #[.func (.yield l) #[] #[]]).run P w1= .ok (.enter f (#[.func (.yield l) #[] #[]]++(SV.vals ρ caps).toArray)) w1:=by
   intro l w1;simp [invoke,callFunc,hf,hname',hb]
  have hro:=hstk.ro;split at hv
  ·
   rename_i har;rw [har]at hro;simp only at hro;subst hro;refine wpIn_rangeFunc fun fn _=>?_
   have e1:=run_enterLoop_outer (P:=P) (w:=w) fn a.tmps ps x y;refine⟨_,_,_,_,_,f,_,_,e1,hres _ _,fun _ _=>trivial,hinv _ _,fun h=>(by cases h),?_⟩;simp only [VC]at hv;have hv1:=hv w.heap.size (w.heap.size+1) {state:= .ready,pending:=none,fn,tmps:=a.tmps,params:=ps,assign:=x,body:=y,defers:=w.heap.size};generalize hq:({state:= .ready,pending:=none,fn,tmps:=a.tmps,params:=ps,assign:=x,body:=y,defers:=w.heap.size}:Loop)=q at hv1 e1 ⊢;have hle:=Env.le_ext ρ ⟨[w.heap.size,w.heap.size+1],[],[],[],[],[],[q]⟩;have hag:=Env.Le.agree hw.lens hle;have hl:=lens_rec2 hw.lens w.heap.size (w.heap.size+1) q;have hcl:=Lens.le hw.lens hl hle;have b1:(ρ.ext ⟨[w.heap.size,w.heap.size+1],[],[],[],[],[],[q]⟩).bv.getD st.cnt.b 0=w.heap.size:=by simp [Env.ext,←hw.lens.b]
   have b2:(ρ.ext ⟨[w.heap.size,w.heap.size+1],[],[],[],[],[],[q]⟩).bv.getD (st.cnt.b+1) 0=w.heap.size+1:=by simp [Env.ext,←hw.lens.b]
   have b3:(ρ.ext ⟨[w.heap.size,w.heap.size+1],[],[],[],[],[],[q]⟩).lr.getD st.cnt.r loop0=q:=by simp [Env.ext,←hw.lens.r]
   have hqr:({q with state:=RS.ready.st,pending:=Jump.none.code}:Loop)=q:=by subst hq;rfl
   have hps:q.params=ps:=by subst hq;rfl
   have hqa:q.assign=x:=by subst hq;rfl
   have hqb:q.body=y:=by subst hq;rfl
   have hqt:q.tmps=a.tmps:=by subst hq;rfl
   clear hq;generalize hρ1:ρ.ext ⟨[w.heap.size,w.heap.size+1],[],[],[],[],[],[q]⟩=ρ1 at hv1 hle hag hl b1 b2 b3;have hown1:Owns ((st.hp.map (Ck.den ρ1)++[dfrHP w.heap.size])++Fs) (w.alloc (.deferred (some []))):=by
    refine Owns.add (by rw [←Cks_sc hag hw.sch];exact hw.own) _ (fun k=>k=w.heap.size) (by simp) (fun k hk=>heap_alloc_old w _ hk) ⟨fun _=>Iff.rfl,heap_alloc_new w _⟩ (fun k hk=>by simp;omega)
   have hown2:Owns (((st.hp.map (Ck.den ρ1)++[dfrHP w.heap.size])++[recHP (w.heap.size+1) q])++Fs) ((w.alloc (.deferred (some []))).alloc (.loop q)):=by
    have hsz:(w.alloc (.deferred (some []))).heap.size=w.heap.size+1:=by simp
    refine Owns.add hown1 _ (fun k=>k=w.heap.size+1) (by simp) (fun k hk=>heap_alloc_old _ _ hk) ⟨fun _=>Iff.rfl,?_⟩ (fun k hk=>by simp;omega);have:=heap_alloc_new (w.alloc (.deferred (some []))) (.loop q)
    rwa [hsz]at this
   have hw1:HW Fs w0 {st with hp:=st.hp++[.dfr st.cnt.b]++[.lrec (st.cnt.b+1) st.cnt.r .ready .none],cnt:={st.cnt with b:=st.cnt.b+2,r:=st.cnt.r+1}} ρ1 ((w.alloc (.deferred (some []))).alloc (.loop q)):=by
    refine⟨hl,frSc_mono hcl hw.scf,?_,BEs_mono hcl hw.sck,fun b hb=>(BE.sc_prop hag (List.all_eq_true.1 hw.sck b hb)).1 (hw.kn b hb),?_,(hw.same.trans (alloc_same _ _)).trans (alloc_same _ _),dsc_mono hcl hw.scd⟩
    ·simp only [List.all_append,Bool.and_eq_true,List.all_cons,List.all_nil,Ck.sc,Nat.blt_eq];exact⟨⟨Cks_mono hcl hw.sch,by omega,trivial⟩,⟨by omega,by omega⟩,trivial⟩
    ·simp only [List.map_append,List.map_cons,List.map_nil,Ck.den,b1,b2,b3,hqr];exact hown2
   have hfr1:frSc {st.cnt with b:=st.cnt.b+2,r:=st.cnt.r+1} st.fr=true:=frSc_mono hcl hw.scf;have hds1:(MK.one st.cnt.b::st.nt.ds).all (MK.sc {st.cnt with b:=st.cnt.b+2,r:=st.cnt.r+1})=true:=by
    rw [List.all_cons,Bool.and_eq_true,MK.sc,Nat.blt_eq];exact⟨by show st.cnt.b<st.cnt.b+2;omega,dsc_mono hcl hw.scd⟩
   have ha1:=ha.more hw.scf hw.scd hag;have hstk1:Stk ρ1 (.rf (st.cnt.b+1) st.cnt.r st.fn ⟨st.nt.n,.one st.cnt.b::st.nt.ds⟩ st.fr ps x y fd::k) none:=by
    refine⟨fun l r fn nt fr ps' x' y' fd' hm=>?_,rfl⟩;rcases List.mem_cons.1 hm with hm | hm
    ·cases hm;refine⟨ρ1,_,hl,Env.Le.refl _,hfr1,by simp,by rw [b3,hps],by rw [b3,hqa],by rw [b3,hqb],?_⟩;rw [b3,hqt];exact⟨rfl,ha1.size,ha1.slots⟩
    ·exact(hstk.le hle).rf l r fn nt fr ps' x' y' fd' hm
   have hcall:=inline_rf (Lb:=L) hT hn IHc hf hb (a':={a with defers:=[{target:= .collected w.heap.size,args:= #[]}]++a.defers}) hv1
    (by simp only [SV.scL,SV.sc,Bool.and_eq_true,Nat.blt_eq];exact⟨by omega,SV.scL_mono hcl hcaps⟩) hw1 hstk1 (hstk.le hle) hfr1 hds1
    ⟨by rw [ha.defers,marks_sc hag hw.scd];simp only [marks,List.flatMap_cons,MK.blocks,List.map_cons,b1,List.singleton_append],ha1.size,ha1.slots⟩ hle (fun _ _=>rfl) (by simp)
   rw [b2]at hcall;have hargs:(SV.vals ρ1 (.yld (st.cnt.b+1)::caps)).toArray= #[.func (.yield (w.heap.size+1)) #[] #[]]++(SV.vals ρ caps).toArray:=by
    simp only [SV.vals,SV.val,b2,(SV.scL_val hag hcaps).1];simp
   rw [hargs]at hcall;exact hcall
  ·
   rename_i l0 har;rw [har]at hro;simp only at hro;obtain⟨ρ0,c0,k1,k2,k3,k4⟩:=hro;rw [(Env.Le.agree k1 k2).b l0 k3]at k4;split at hv
   case h_2=>exact hv.elim
   rename_i rc hrec;obtain⟨i0,r0,s0,j0⟩:=rc;have hblk:=rec_block hw hrec;refine wpIn_rangeFunc fun fn _=>?_
   have e1:=run_enterLoop_inner (P:=P) (w:=w) hblk fn a.tmps ps x y;rw [show(FW ro).round=ro from rfl,k4];refine⟨_,_,_,_,_,f,_,_,e1,hres _ _,fun _ _=>trivial,hinv _ _,fun h=>(by cases h),?_⟩;simp only [VC]at hv;have hv1:=hv w.heap.size {state:= .ready,pending:=none,fn,tmps:=a.tmps,params:=ps,assign:=x,body:=y,defers:=({ρ.lr.getD r0 loop0 with state:=s0.st,pending:=j0.code}:Loop).defers};generalize hq:({state:= .ready,pending:=none,fn,tmps:=a.tmps,params:=ps,assign:=x,body:=y,defers:=({ρ.lr.getD r0 loop0 with state:=s0.st,pending:=j0.code}:Loop).defers}:Loop)=q at hv1 e1 ⊢;have hle:=Env.le_ext ρ ⟨[w.heap.size],[],[],[],[],[],[q]⟩;have hag:=Env.Le.agree hw.lens hle;have hl:=lens_rec1 hw.lens w.heap.size q;have hcl:=Lens.le hw.lens hl hle;have b2:(ρ.ext ⟨[w.heap.size],[],[],[],[],[],[q]⟩).bv.getD st.cnt.b 0=w.heap.size:=by simp [Env.ext,←hw.lens.b]
   have b3:(ρ.ext ⟨[w.heap.size],[],[],[],[],[],[q]⟩).lr.getD st.cnt.r loop0=q:=by simp [Env.ext,←hw.lens.r]
   have hqr:({q with state:=RS.ready.st,pending:=Jump.none.code}:Loop)=q:=by subst hq;rfl
   have hps:q.params=ps:=by subst hq;rfl
   have hqa:q.assign=x:=by subst hq;rfl
   have hqb:q.body=y:=by subst hq;rfl
   have hqt:q.tmps=a.tmps:=by subst hq;rfl
   clear hq;generalize hρ1:ρ.ext ⟨[w.heap.size],[],[],[],[],[],[q]⟩=ρ1 at hv1 hle hag hl b2 b3;have hown2:Owns ((st.hp.map (Ck.den ρ1)++[recHP w.heap.size q])++Fs) (w.alloc (.loop q)):=by
    refine Owns.add (by rw [←Cks_sc hag hw.sch];exact hw.own) _ (fun k=>k=w.heap.size) (by simp) (fun k hk=>heap_alloc_old w _ hk) ⟨fun _=>Iff.rfl,heap_alloc_new w _⟩ (fun k hk=>by simp;omega)
   have hw1:HW Fs w0 {st with hp:=st.hp++[.lrec st.cnt.b st.cnt.r .ready .none],cnt:={st.cnt with b:=st.cnt.b+1,r:=st.cnt.r+1}} ρ1 (w.alloc (.loop q)):=by
    refine⟨hl,frSc_mono hcl hw.scf,?_,BEs_mono hcl hw.sck,fun b hb=>(BE.sc_prop hag (List.all_eq_true.1 hw.sck b hb)).1 (hw.kn b hb),?_,hw.same.trans (alloc_same _ _),dsc_mono hcl hw.scd⟩
    ·simp only [List.all_append,Bool.and_eq_true,List.all_cons,List.all_nil,Ck.sc,Nat.blt_eq];exact⟨Cks_mono hcl hw.sch,⟨by omega,by omega⟩,trivial⟩
    ·simp only [List.map_append,List.map_cons,List.map_nil,Ck.den,b2,b3,hqr];exact hown2
   have hfr1:frSc {st.cnt with b:=st.cnt.b+1,r:=st.cnt.r+1} st.fr=true:=frSc_mono hcl hw.scf;have ha1:=ha.more hw.scf hw.scd hag;have hstk1:Stk ρ1 (.rf st.cnt.b st.cnt.r st.fn st.nt st.fr ps x y fd::k) none:=by
    refine⟨fun l r fn nt fr ps' x' y' fd' hm=>?_,rfl⟩;rcases List.mem_cons.1 hm with hm | hm
    ·cases hm;refine⟨ρ1,_,hl,Env.Le.refl _,hfr1,by simp,by rw [b3,hps],by rw [b3,hqa],by rw [b3,hqb],?_⟩;rw [b3,hqt];exact⟨rfl,ha1.size,ha1.slots⟩
    ·exact(hstk.le hle).rf l r fn nt fr ps' x' y' fd' hm
   have hcall:=inline_rf (Lb:=L) (ro:=ro) hT hn IHc hf hb (a':={a with defers:=[]++a.defers}) hv1
    (by simp only [SV.scL,SV.sc,Bool.and_eq_true,Nat.blt_eq];exact⟨by omega,SV.scL_mono hcl hcaps⟩) hw1 hstk1 (hstk.le hle) hfr1 (dsc_mono hcl hw.scd)
    ⟨ha1.defers,ha1.size,ha1.slots⟩ hle (fun _ _=>rfl) (by simp)
   rw [b2]at hcall;have hargs:(SV.vals ρ1 (.yld st.cnt.b::caps)).toArray= #[.func (.yield w.heap.size) #[] #[]]++(SV.vals ρ caps).toArray:=by
    simp only [SV.vals,SV.val,b2,(SV.scL_val hag hcaps).1];simp
   rw [hargs]at hcall;rw [k4]at hcall;exact hcall
end
end Go.RX
