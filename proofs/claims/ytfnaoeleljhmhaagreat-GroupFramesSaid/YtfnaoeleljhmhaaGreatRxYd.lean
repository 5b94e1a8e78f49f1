/- A reflective symbolic executor, part 25d: regions whose order is drawn: effects; the whole. -/
import Derived.Test.YtfnaoeleljhmhaaGreatM26

namespace Go.RX
section
variable {P:Program} {C:Ctx} {Post:Value→List HP→Prop} {Fs:List HP} {w0:World} {all:Array Oper} {pm:List Nat}
variable {ro:Option Nat} {nt:NT} {a0:Act} {listed:Array Bool} {a:Act} {w:World} {rest:List Nat} {done:Nat} {log:List (Nat×List Nat)} {st:St} {ρ:Env} {W:List Wr}
theorem Oper.wpIn_put{F:Fence}{n:Nat}{o:Oper}{K:Act→World→Prop}{Q:Exit→Act→World→Prop}(hh:o.wpIn F n P a w K Q):
  o.wpIn F n P a w (fun a' w'=>K a' w'∧(a'.defers≠a.defers∨∃u,a'=a.put o.dst u)) Q:=by
 unfold Oper.wpIn at*;refine⟨hh.1,?_⟩;have hh:=hh.2;generalize (o.semAt F.round a.eval).run P w=r at*;cases r with
 | ok x w'=>
  cases x<;>simp only [Oper.uponIn]at hh ⊢ <;>
   first
    | exact⟨hh,.inr ⟨_,rfl⟩⟩
    | exact⟨hh,.inl (by rw [put_defers];simp)⟩
    | exact⟨hh.1,CallsIn.mono hh.2 (fun e w'' he=>by cases e<;>first | exact⟨he,.inr ⟨_,rfl⟩⟩ | exact he)⟩
    | exact⟨hh.1,RowsIn.mono hh.2 (fun _ _ he=>⟨he,.inr ⟨_,rfl⟩⟩)⟩
    | exact⟨hh.1,RoundIn.mono hh.2 (fun e w'' he=>by cases e<;>first | exact⟨he,.inr ⟨_,rfl⟩⟩ | exact he)⟩
    | exact hh
 | halt x w'=>cases x<;>simp only [Oper.uponIn]at hh ⊢ <;>exact hh
theorem Oper.wpIn_mono3{F:Fence}{n:Nat}{o:Oper}{K K':Act→World→Prop}{Q Q':Exit→Act→World→Prop}(h: ∀a w,K a w→K' a w)(hq: ∀c a w,¬Q (.panic c) a w)(ho: ¬LetsOut Q)
  (hh:o.wpIn F n P a w K Q):o.wpIn F n P a w K' Q':=by
 unfold Oper.wpIn at*;refine⟨hh.1,?_⟩;have hh:=hh.2;generalize (o.semAt F.round a.eval).run P w=r at*;cases r with
 | ok x w'=>
  cases x<;>simp only [Oper.uponIn]at hh ⊢ <;>
   first
    | exact h _ _ hh
    | exact⟨hh.1,CallsIn.mono hh.2 (fun e w'' he=>by cases e<;>first | exact h _ _ he | exact absurd he (hq _ _ _) | exact absurd he ho)⟩
    | exact⟨hh.1,RowsIn.mono hh.2 (fun _ _ he=>h _ _ he)⟩
    | exact⟨hh.1,RoundIn.mono hh.2 (fun e w'' he=>by cases e<;>first | exact h _ _ he | exact absurd he (hq _ _ _) | exact absurd he ho)⟩
 | halt x w'=>cases x<;>simp only [Oper.uponIn]at hh ⊢ <;>first | exact absurd hh (hq _ _ _) | exact hh
theorem kept_spec{c:Cnt}{hp hp':List Ck}{rd:List Nat}{ρ ρ':Env}(h:kept c hp hp' rd=true)(hag:Agree c ρ ρ'){j:Nat}(hj:j∈rd){a:Ck}(ha:hp[j]? =some a):
  ∃b,hp'[j]? =some b∧b.den ρ'=a.den ρ:=by
 have h1:=List.all_eq_true.1 h j hj;simp only [ha]at h1;split at h1
 ·rename_i x b hx hb;cases hx;split at h1
  ·rename_i l hl;refine⟨b,hb,(unifyCk_sound hag.va hl fun y hy=>trivial_holds hag (List.all_eq_true.1 h1 y hy)).symm⟩
  ·cases h1
 ·rename_i hx;cases hx
 ·cases h1
theorem DI.effect{n:Nat}(IHo:SoundO P C Post Fs w0 n){k:List KI}(hstk:Stk ρ k ro)(h:DI P Fs w0 all ro nt a0 listed a w rest done log st ρ W)(hord:orderedB all pm=true)(hpm:pmOk all pm=true){e:Nat}{o:Oper}(he:all[e]? =some o)(her:e∈rest)
  (hnl:lst listed e=false) (hready: ∀x∈o.after,Region.binds .any x=true→lst listed x.on=true) (hdst:okDst st o.dst=true) {L:Nat→LC}
  (hv:VC P Post (run C n (.ops all [o]:: .dret all pm e rest done log st.fn st.nt st.fr st.hp st.cnt::k) {st with fr:=restrict st.fr (slotsOf all o)}) ρ L) (Q:Exit→Act→World→Prop) (K:Act→World→Prop)
  (hK: ∀a' w',(∃m,m<n∧∃rest done log st ρ' L' W,VC P Post (run C m (.dops all pm rest done log::k) st) ρ' L'∧Env.Le ρ ρ'∧(∀j,j<nl k→L' j=L j)∧DI P Fs w0 all ro nt a0 (listed.setIfInBounds e true) a' w' rest done log st ρ' W)→K a' w'):
  wpOpIn (FW ro) 0 P all Q e K a w:=by
 have heW:e ∉ W.map (·.1):=((h.rest e).1 her).2;have hel:e<listed.size:=by rw [h.lsz];exact(Array.getElem?_eq_some_iff.1 he).1
 have hdef:a.defers=(puts a0 W).defers:=by rw [h.act,puts_defers,puts_defers]
 have hsz:nt.n≤a.tmps.size:=by rw [h.act,puts_size,←puts_size W];exact h.ha.size
 have ha:HA (restrict st.fr (slotsOf all o)) nt ρ a:=by
  refine restrict_HA h.ha (fun s hs=>?_) hdef hsz;rw [h.act];have:=agree_slots (a0:=a0) (listed:=listed) (W1:=W) (tail:=[]) (s:=s) (fun y hy hys=>h.before hord hpm he hready (tail:=[]) (by simp) heW (.inl hs) y hy hys) (fun y hy=>by cases hy)
  rwa [List.append_nil]at this
 have hw:HW Fs w0 {st with fr:=restrict st.fr (slotsOf all o)} ρ w:=
  ⟨h.hw.lens,List.all_eq_true.2 fun x hx=>List.all_eq_true.1 h.hw.scf x (List.mem_filter.1 hx).1,h.hw.sch,h.hw.sck,h.hw.kn,h.hw.own,h.hw.same,h.hw.scd⟩
 have hwp:=IHo ro all [o] _ _ ρ L a w hv hw (by rw [show({st with fr:=restrict st.fr (slotsOf all o)}:St).nt=st.nt from rfl,h.hnt];exact ha) (hstk.push rfl);have fin: ∀a' w',QK P C Post Fs w0 n (.dret all pm e rest done log st.fn st.nt st.fr st.hp st.cnt::k) ρ L .normal a' w'→(a'.defers≠a.defers∨∃u,a'=a.put o.dst u)→K a' w':=by
  intro a' w' hq hor;obtain⟨k',hk,m,hm,st',ρ',L',g1,g2,g3,g4,g5⟩:=hq;cases hk;cases m with
  | zero=>exact g5.elim
  | succ m=>
   simp only [run,he]at g5;split at g5
   case isFalse=>exact g5.elim
   rename_i hlog;rw [Bool.and_eq_true,beq_iff_eq]at hlog;obtain⟨hlog,hnt'⟩:=hlog;obtain⟨u,rfl⟩: ∃u,a'=a.put o.dst u:=by
    rcases hor with hor | hor
    ·rw [g4.defers,hdef,h.ha.defers,hnt',h.hnt]at hor;exact absurd (marks_sc (Env.Le.agree h.hw.lens g1) (by rw [←h.hnt];exact h.hw.scd)).symm hor
    ·exact hor
   split at g5
   case h_2=>exact g5.elim
   rename_i v hv';have hag:=Env.Le.agree h.hw.lens g1;have hcl:=Lens.le h.hw.lens g3.lens g1;have hvs:v.sc st'.cnt=true:=by
    cases hd:o.dst with
    | none=>rw [hd]at hv';simp only [Option.some.injEq]at hv';subst hv';rfl
    | some d=>rw [hd]at hv';exact look_sc g3.scf hv'
   have hw3:HW Fs w0 (setNt st' st.fn st.nt st.fr) ρ' w':=⟨g3.lens,frSc_mono hcl h.hw.scf,g3.sch,g3.sck,g3.kn,g3.own,g3.same,dsc_mono hcl h.hw.scd⟩;have hpr:=put_rest (setNt st' st.fn st.nt st.fr) o.dst v;have hlst: ∀j,lst (listed.setIfInBounds e true) j=(decide (e=j)||lst listed j):=fun j=>lst_set hel
   refine hK _ _ ⟨m,by omega,_,_,_,_,ρ',L',W++[(e,o.dst,u)],g5,g1,g2,?_⟩;refine⟨hw3.put hvs,by rw [hpr.2.2.2.1];exact h.hnt,?_,?_,?_,?_,?_,?_,by simp [h.lsz],?_,?_,?_⟩
   ·have f1:W.filter (fun y=>lst (listed.setIfInBounds e true) y.1)=W.filter (fun y=>lst listed y.1):=List.filter_congr fun y hy=>by
     have:e≠y.1:=fun ee=>heW (by rw [ee];exact List.mem_map.2 ⟨y,hy,rfl⟩)
     rw [hlst];simp [this]
    rw [List.filter_append,f1,List.filter_cons_of_pos (by rw [hlst];simp),List.filter_nil,puts_append,puts_one,←h.act]
   ·rw [puts_append,puts_one];have ha3:=h.ha.more h.hw.scf (by rw [←h.hnt];exact h.hw.scd) hag;cases hd:o.dst with
    | none=>exact ha3
    | some d=>
     have hdl:d<nt.n:=by rw [←h.hnt];exact okDst_lt hdst d hd
     refine HA.put ha3 (fun x hx=>by cases hx;exact hdl) ?_ _ rfl;rw [hd]at hv';have:=g4.slots d v hv';rw [hd,put_self a d u (Nat.lt_of_lt_of_le hdl hsz)]at this;exact this
   ·rw [List.map_append,List.nodup_append];exact⟨h.nd,by simp,fun x hx y hy=>by
     simp only [List.map_cons,List.map_nil,List.mem_singleton]at hy;subst hy;intro hxy;subst hxy;exact heW hx⟩
   ·intro j;rw [testBit_set,Bool.or_eq_true,h.done,List.map_append,List.mem_append];simp only [decide_eq_true_eq,List.map_cons,List.map_nil,List.mem_singleton];exact⟨fun hj=>hj.imp id Eq.symm,fun hj=>hj.imp id Eq.symm⟩
   ·intro j;rw [List.mem_filter,h.rest,List.map_append,List.mem_append];simp only [bne_iff_ne,ne_eq,List.map_cons,List.map_nil,List.mem_singleton,not_or,and_assoc]
   ·intro j hj;rw [List.map_append,List.mem_append];rw [hlst,Bool.or_eq_true]at hj;rcases hj with hj | hj
    ·right;rw [←of_decide_eq_true hj];simp
    ·exact .inl (h.sub j hj)
   ·intro p op hop hp x hx hb;rw [hlst,Bool.or_eq_true]at hp ⊢;rcases hp with hp | hp
    ·have:=of_decide_eq_true hp;subst this;rw [he]at hop;cases hop;exact .inr (hready x hx hb)
    ·exact .inr (h.clL p op hop hp x hx hb)
   ·intro W1 x W2 hW;rcases snoc_cases hW with⟨rfl,rfl,rfl⟩ | ⟨W2',rfl,hW'⟩
    ·exact⟨o,he,rfl,fun x hx hb=>h.sub _ (hready x hx hb)⟩
    ·exact h.clW W1 x W2' hW'
   ·intro W1 x W2 hW hnlx;rcases snoc_cases hW with⟨rfl,rfl,rfl⟩ | ⟨W2',rfl,hW'⟩
    ·rw [hlst]at hnlx;simp at hnlx
    ·rw [hlst,Bool.or_eq_false_iff]at hnlx;obtain⟨o',rd,hp,ρ1,h1,h2,h3,h4⟩:=h.pend W1 x W2' hW' hnlx.2;refine⟨o',rd,hp,ρ1,h1,h2,h3,fun j hj ck hck=>?_⟩;obtain⟨ck',hck',hden⟩:=h4 j hj ck hck;have hx:=List.all_eq_true.1 hlog _ h2;simp only [Bool.or_eq_true]at hx;rcases hx with hx | hx
     ·have hxl:x.1<all.size:=(Array.getElem?_eq_some_iff.1 h1).1;have:=ahead_pm hpm (fun q=>lst listed q=true) h.clL he hready hxl hx;rw [hnlx.2]at this;cases this
     ·obtain⟨b,hb,hbd⟩:=kept_spec hx hag hj hck';exact⟨b,by rw [hpr.1];exact hb,by rw [hbd,hden]⟩
 unfold wpOpIn;simp only [he];unfold wpListIn at hwp;split
 ·rename_i hwant;rw [if_pos hwant]at hwp;refine Oper.wpIn_mono3 (fun a' w' hh=>fin a' w' hh.1 hh.2) (fun c a' w' hq=>?_) (fun hq=>?_) (Oper.wpIn_put hwp)
  ·obtain⟨k',hk,_⟩:=hq;cases hk
  ·obtain⟨_,_,k',hk,_⟩:=hq;cases hk
 ·rename_i hwant;rw [if_neg hwant]at hwp;exact⟨hwp.1,fin _ _ hwp.2 (.inr ⟨undef,rfl⟩)⟩
theorem DI.descend(hT:checkT P C.T=true){k:List KI}{L:Nat→LC}: ∀{m:Nat} {rest:List Nat} {done:Nat} {log:List (Nat×List Nat)} {st:St} {W:List Wr},
  VC P Post (run C m (.dops all pm rest done log::k) st) ρ L→DI P Fs w0 all ro nt a0 listed a w rest done log st ρ W→
  ∃m',m'≤m∧∃rest done log st W,VC P Post (run C m' (.dops all pm rest done log::k) st) ρ L∧DI P Fs w0 all ro nt a0 listed a w rest done log st ρ W∧
   (rest=[]∨(rest.find? fun i=>isQuiet all i&&readyB all done i)=none)
 | 0,rest,done,log,st,W,hv,_=>hv.elim
 | m+1,[],done,log,st,W,hv,h=>⟨m+1,Nat.le_refl _,[],done,log,st,W,hv,h,.inl rfl⟩
 | m+1,x::r,done,log,st,W,hv,h=>by
  cases hf:(x::r).find? fun i=>isQuiet all i&&readyB all done i with
  | none=>exact⟨m+1,Nat.le_refl _,x::r,done,log,st,W,hv,h,.inr hf⟩
  | some i=>
   have hmem:=List.mem_of_find?_eq_some hf;have hcond:=List.find?_some hf;simp only [Bool.and_eq_true]at hcond;simp only [run,hf]at hv;split at hv
   case h_2=>exact hv.elim
   rename_i o ho;split at hv
   case isFalse=>exact hv.elim
   rename_i hdst;split at hv
   ·exact hv.elim
   ·rename_i g hg;split at hv
    case isFalse=>exact hv.elim
    rename_i hgs;split at hv
    case h_2=>exact hv.elim
    rename_i res hres;split at hv
    case h_2=>exact hv.elim
    rename_i heff;obtain⟨hvc,hv⟩:=wrapVc_sound h.hw.kn hv;obtain⟨m',hm',q⟩:=DI.descend hT hv (h.quiet hT hmem hcond.2 ho hdst hg hgs hres heff hvc);exact⟨m',by omega,q⟩
def unl(all:Array Oper)(listed:Array Bool):Nat:=(List.range all.size).countP fun i=> !lst listed i
theorem unl_set(hl:listed.size=all.size){i:Nat}(hi:i<all.size)(hn:lst listed i=false):unl all (listed.setIfInBounds i true)+1≤unl all listed:=by
 unfold unl;have key: ∀(l:List Nat),l.Nodup→i∈l→l.countP (fun j=> !lst (listed.setIfInBounds i true) j)+1≤l.countP (fun j=> !lst listed j):=by
  intro l
  induction l with
  | nil=>intro _ h;cases h
  | cons x r ih=>
   intro hnd hm;rw [List.nodup_cons]at hnd;rw [List.countP_cons,List.countP_cons,lst_set (by omega)];by_cases hx:i=x
   ·subst hx;have:r.countP (fun j=> !lst (listed.setIfInBounds i true) j)=r.countP (fun j=> !lst listed j):=List.countP_congr fun j hj=>by
     have:i≠j:=fun e=>hnd.1 (e▸hj)
     rw [lst_set (by omega)];simp [this]
    rw [this];simp [hn]
   ·have hm':i∈r:=(List.mem_cons.1 hm).resolve_left hx;have:=ih hnd.2 hm';simp only [hx,decide_false,Bool.false_or];omega
 exact key _ List.nodup_range (List.mem_range.2 hi)
theorem unl_zero(h:unl all listed=0): ∀i,i<all.size→lst listed i=true:=by
 intro i hi;unfold unl at h;rw [List.countP_eq_zero]at h;have:=h i (List.mem_range.2 hi);simpa using this
theorem DI.ready_nil(h:DI P Fs w0 all ro nt a0 listed a w rest done log st ρ W)(hpm:pmOk all pm=true)(hr:Region.ready .any all listed=[]): ∀i,i<all.size→lst listed i=true:=by
 intro i
 induction i using Nat.strongRecOn with
 | _ i ih=>
  intro hi;cases hl:lst listed i with
  | true=>rfl
  | false=>
   have hoi:all[i]? =some all[i]:=Array.getElem?_eq_getElem hi;have:i∈Region.ready .any all listed:=by
    rw [mem_ready];refine⟨?_,_,hoi,fun e he hb=>?_⟩
    ·have hil:i<listed.size:=by rw [h.lsz];exact hi
     unfold lst at hl;rw [Array.getD_eq_getD_getElem?,Array.getElem?_eq_getElem hil]at hl ⊢;exact hl
    ·have:=(pmOk_spec hpm hoi).1 e he hb;exact ih e.on this (by omega)
   rw [hr]at this;cases this
theorem allDone{listed:Array Bool}{a:Act}{w:World}{m:Nat}{n:Nat}{rest:List Nat}{done:Nat}{log:List (Nat×List Nat)}{st:St}{ρ:Env}{W:List Wr}{k:List KI}{L:Nat→LC}{ρb:Env}{Lb:Nat→LC}
  (hall: ∀i,i<all.size→lst listed i=true) (hm:m≤n) (hv:VC P Post (run C m (.dops all pm rest done log::k) st) ρ L) (hle:Env.Le ρb ρ) (hL: ∀j,j<nl k→L j=Lb j)
  (h:DI P Fs w0 all ro nt a0 listed a w rest done log st ρ W):QK P C Post Fs w0 n k ρb Lb .normal a w:=by
 have hre:rest=[]:=by
  cases hr:rest with
  | nil=>rfl
  | cons x r=>
   have:=(h.rest x).1 (by rw [hr];exact List.mem_cons_self);exact absurd (h.sub x (hall x this.1)) this.2
 subst hre;cases m with
 | zero=>exact hv.elim
 | succ m=>
  simp only [run]at hv;have hW:W.filter (fun x=>lst listed x.1)=W:=by
   rw [List.filter_eq_self];intro x hx;obtain⟨A,B,hAB⟩:=List.append_of_mem hx;obtain⟨o,ho,_⟩:=h.clW A x B hAB;exact hall x.1 (Array.getElem?_eq_some_iff.1 ho).1
  have hact:=h.act;rw [hW]at hact;refine⟨k,rfl,m,by omega,st,ρ,L,hle,hL,h.hw,?_,hv⟩;rw [hact,h.hnt];exact h.ha
theorem bothF_mem{ρ:Env}{L:Nat→LC}: ∀{l:List F},VC P Post (bothF l) ρ L→∀x∈l,VC P Post x ρ L
 | [],h,_,_=>h.elim
 | [x],h,y,hy=>by
  rw [List.mem_singleton]at hy;exact hy▸h
 | x::y::r,h,z,hz=>by
  rcases List.mem_cons.1 hz with rfl | hz
  ·exact h.1
  ·exact bothF_mem h.2 z hz
theorem dops_any(hT:checkT P C.T=true){n:Nat}(IHo: ∀m,m<n→SoundO P C Post Fs w0 m)(hord:orderedB all pm=true)(hpm:pmOk all pm=true){k:List KI}{ρb:Env}{Lb:Nat→LC}(hstk:Stk ρb k ro):
  ∀(fuel:Nat) (listed:Array Bool) (a:Act) (w:World),unl all listed≤fuel→
   (∃m,m≤n∧∃rest done log st ρ L W,VC P Post (run C m (.dops all pm rest done log::k) st) ρ L∧Env.Le ρb ρ∧(∀j,j<nl k→L j=Lb j)∧DI P Fs w0 all ro nt a0 listed a w rest done log st ρ W)→
   wpAnyIn (FW ro) 0 P .any all (QK P C Post Fs w0 n k ρb Lb) fuel listed a w:=by
 intro fuel
 induction fuel with
 | zero=>
  intro listed a w hf ⟨m,hm,rest,done,log,st,ρ,L,W,hv,hle,hL,h⟩;have hall:=unl_zero (Nat.le_zero.1 hf);refine⟨?_,?_⟩
  ·cases hr:Region.ready .any all listed with
   | nil=>rfl
   | cons i r=>
    have:i∈Region.ready .any all listed:=by rw [hr];exact List.mem_cons_self
    rw [mem_ready]at this;obtain⟨h0,o,ho,_⟩:=this;have hi:i<all.size:=(Array.getElem?_eq_some_iff.1 ho).1;have hl:=hall i hi;unfold lst at hl;have hil:i<listed.size:=by rw [h.lsz];exact hi
    rw [Array.getD_eq_getD_getElem?,Array.getElem?_eq_getElem hil]at hl h0;simp at hl h0;rw [hl]at h0;cases h0
  ·exact allDone hall hm hv hle hL h
 | succ fuel ih=>
  intro listed a w hf ⟨m,hm,rest,done,log,st,ρ,L,W,hv,hle,hL,h⟩;refine⟨fun hr=>allDone (h.ready_nil hpm hr) hm hv hle hL h,fun i hi=>?_⟩;rw [mem_ready]at hi;obtain⟨h0,o,ho,hpre⟩:=hi;have hil:i<all.size:=(Array.getElem?_eq_some_iff.1 ho).1;have hnl:lst listed i=false:=by
   have:i<listed.size:=by rw [h.lsz];exact hil
   unfold lst;rw [Array.getD_eq_getD_getElem?,Array.getElem?_eq_getElem this]at h0 ⊢;exact h0
  have hlow:unl all (listed.setIfInBounds i true)≤fuel:=by
   have:=unl_set h.lsz hil hnl;omega
  obtain⟨m',hm',rest',done',log',st',W',hv',h',hmax⟩:=DI.descend hT hv h;by_cases hiW:i∈W'.map (·.1)
  ·exact h'.pending hord hpm ho hnl hpre hiW _ _ fun a' hD=>ih _ _ _ hlow ⟨m',by omega,rest',done',log',st',ρ,L,W',hv',hle,hL,hD⟩
  ·have hir:i∈rest':=(h'.rest i).2 ⟨hil,hiW⟩;have hrd:readyB all done' i=true:=readyB_of ho fun e he hb=>(h'.done _).2 (h'.sub _ (hpre e he hb))
   rcases hmax with rfl | hmax
   ·cases hir
   ·cases m' with
    | zero=>exact hv'.elim
    | succ m'=>
     cases hre:rest' with
     | nil=>rw [hre]at hir;cases hir
     | cons x r=>
      rw [hre]at hv' hmax;simp only [run,hmax]at hv';have hiL:i∈(x::r).filter (readyB all done'):=List.mem_filter.2 ⟨hre▸hir,hrd⟩;have hv':=bothF_mem hv' _ (List.mem_map.2 ⟨i,hiL,rfl⟩);simp only [ho]at hv';split at hv'
      case isFalse=>exact hv'.elim
      rename_i hdst;rw [←hre]at hv';refine DI.effect (IHo m' (by omega)) (hstk.le hle) h' hord hpm ho hir hnl hpre hdst hv' _ _ fun a' w' hq=>ih _ _ _ hlow ?_
      obtain⟨m2,hm2,rest2,done2,log2,st2,ρ2,L2,W2,q1,q2,q3,q4⟩:=hq;exact⟨m2,by omega,rest2,done2,log2,st2,ρ2,L2,W2,q1,hle.trans q2,fun j hj=>(q3 j hj).trans (hL j hj),q4⟩
theorem HW.drew(h:HW Fs w0 st ρ w)(d:Nat):HW Fs w0 st ρ {w with drawn:=d}:=by
 refine⟨h.lens,h.scf,h.sch,h.sck,h.kn,?_,h.same.trans ⟨rfl,rfl,rfl,Nat.le_refl _⟩,h.scd⟩;obtain⟨S,hS⟩:=h.own;exact⟨S,hS.keep (Nat.le_refl _) fun _ _=>rfl⟩
theorem soundD_step(hT:checkT P C.T=true)(hm:P.follows .mixedOrders=true){n:Nat}(IHo: ∀m,m<n→SoundO P C Post Fs w0 m):SoundD P C Post Fs w0 n:=by
 intro ro id all pm k st ρ L a w hv hord hpm hw ha hstk;refine wpIn_region_any hm (dops_any (ro:=ro) (nt:=st.nt) (a0:=a) hT IHo hord hpm hstk _ _ _ _ ?_ ⟨n,Nat.le_refl _,_,_,_,_,ρ,L,[],hv,Env.Le.refl _,fun _ _=>rfl,?_⟩)
 ·unfold unl;exact Nat.le_trans List.countP_le_length (by simp)
 ·have hno: ∀i,lst (Array.replicate all.size false) i=false:=by
   intro i;unfold lst;rw [Array.getD_eq_getD_getElem?];by_cases hi:i<all.size
   ·simp [hi]
   ·rw [Array.getElem?_eq_none (by simpa using hi)];rfl
  refine⟨hw.drew _,rfl,rfl,ha,List.nodup_nil,fun i=>by simp,fun i=>by simp,fun i hi=>?_,by simp,fun p o _ hp=>?_,fun W1 x W2 hW=>?_,fun W1 x W2 hW=>?_⟩
  ·rw [hno]at hi;cases hi
  ·rw [hno]at hp;cases hp
  ·simp at hW
  ·simp at hW
end
end Go.RX
