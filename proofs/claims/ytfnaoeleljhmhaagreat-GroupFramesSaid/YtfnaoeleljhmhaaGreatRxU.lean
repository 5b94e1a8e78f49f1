/- A reflective symbolic executor, part 21: guards, frames, results, nil slices. -/
import Derived.Test.YtfnaoeleljhmhaaGreatM20

namespace Go.RX
section
variable {P:Program} {ρ ρ':Env} {a:Act} {w:World} {fr:List (Nat×SV)} {nt:NT}
theorem look_filter(d:Nat)(fr:List (Nat×SV))(s:Nat)(h:s≠d):look (fr.filter fun x=> !(x.1==d)) s=look fr s:=by
 induction fr with
 | nil=>rfl
 | cons x r ih=>
  obtain⟨t,v⟩:=x;by_cases ht:t=d
  ·subst ht;rw [List.filter_cons_of_neg (by simp),ih]
   conv=>rhs;unfold look
   rw [if_neg (by simp;exact Ne.symm h)]
  ·rw [List.filter_cons_of_pos (by simpa using ht)];unfold look;rw [ih]
theorem HA.put(h:HA fr nt ρ a){d:Option Nat}{v:SV}{u:Value}(hd: ∀x,d=some x→x<nt.n)(hv:u=v.val ρ)(st:St)(hfr:st.fr=fr):
  HA (st.put d v).fr nt ρ (a.put d u):=by
 subst hfr;cases d with
 | none=>exact h
 | some d=>
  have hlt:=hd d rfl;refine⟨h.defers,by simpa [Act.put] using h.size,fun s x hs=>?_⟩;simp only [St.put]at hs;unfold look at hs;split at hs
  ·rename_i hds;rw [beq_iff_eq]at hds;subst hds;cases hs;have:=h.size;rw [←hv];simp only [Act.put];rw [Array.getD_eq_getD_getElem?,Array.getElem?_setIfInBounds_self_of_lt (by omega)];rfl
  ·rename_i hds;have hne:s≠d:=fun e=>hds (by simp [e])
   rw [look_filter d _ s hne]at hs;have:=h.slots s x hs;rw [←this];simp only [Act.put];rw [Array.getD_eq_getD_getElem?,Array.getD_eq_getD_getElem?,Array.getElem?_setIfInBounds_ne (Ne.symm hne)]
theorem put_rest(st:St)(d:Option Nat)(v:SV):(st.put d v).hp=st.hp∧(st.put d v).cnt=st.cnt∧(st.put d v).known=st.known∧(st.put d v).nt=st.nt∧(st.put d v).fn=st.fn:=by
 cases d<;>exact⟨rfl,rfl,rfl,rfl,rfl⟩
theorem put_sc{c:Cnt}{st:St}{d:Option Nat}{v:SV}(h:frSc c st.fr=true)(hv:v.sc c=true):frSc c (st.put d v).fr=true:=by
 cases d with
 | none=>exact h
 | some d=>
  simp only [St.put,frSc,List.all_cons,Bool.and_eq_true];exact⟨hv,List.all_eq_true.2 fun x hx=>List.all_eq_true.1 h x (List.mem_filter.1 hx).1⟩
variable {Fs:List HP} {w0:World}
theorem HW.put{st:St}(h:HW Fs w0 st ρ w){d:Option Nat}{v:SV}(hv:v.sc st.cnt=true):HW Fs w0 (st.put d v) ρ w:=by
 obtain⟨e1,e2,e3,e4,_⟩:=put_rest st d v;refine⟨by rw [e2];exact h.lens,by rw [e2];exact put_sc h.scf hv,by rw [e1,e2];exact h.sch,by rw [e2,e3];exact h.sck,by rw [e3];exact h.kn,by rw [e1];exact h.own,h.same,by rw [e2,e4];exact h.scd⟩
theorem marks_sc{c:Cnt}(hag:Agree c ρ ρ'){ds:List MK}(h:ds.all (MK.sc c)=true):marks ρ ds=marks ρ' ds:=by
 unfold marks;congr 1;rw [List.flatMap_def,List.flatMap_def];congr 1;refine List.map_congr_left fun d hd=>?_
 have:=List.all_eq_true.1 h d hd;cases d<;>simp only [MK.sc,Nat.blt_eq]at this<;>simp only [MK.blocks,hag.b _ this]
theorem HA.more(h:HA fr nt ρ a){c:Cnt}(hsc:frSc c fr=true)(hsd:nt.ds.all (MK.sc c)=true)(hag:Agree c ρ ρ'):HA fr nt ρ' a:=
 ⟨h.defers.trans (marks_sc hag hsd),h.size,fun s v hs=>by rw [h.slots s v hs];exact(SV.sc_val hag (look_sc hsc hs)).1⟩
theorem HA.eval(h:HA fr nt ρ a):OpsOk ρ (look fr) a.eval:=
 ⟨fun s v hs=>h.slots s v hs,fun _=>rfl,fun _=>rfl⟩
theorem SV.onC_val{c:BE}(hc:c.den ρ=true)(v:SV):(v.onC c).val ρ=v.val ρ:=by
 unfold SV.onC;split
 ·rename_i c' v;split
  ·rename_i he;subst he;rw [SV.val,if_pos hc]
  ·split
   ·split
    ·rename_i he;subst he;simp only [SV.val,BE.den,hc,Bool.true_and]
    ·rfl
   ·rfl
 ·split
  ·rename_i b hb;subst hb;simp only [SV.val,hc,BE.den]
  ·rfl
 ·rfl
theorem SV.offC_val{c:BE}(hc:c.den ρ=false)(v:SV):(v.offC c).val ρ=v.val ρ:=by
 unfold SV.offC;split
 ·rename_i c' v;split
  ·rename_i he;subst he;simp [SV.val,hc]
  ·split
   ·split
    ·rename_i he;subst he;simp [SV.val,BE.den,hc]
    ·rfl
   ·rfl
 ·split
  ·rename_i b hb;subst hb;simp only [SV.val,hc,BE.den]
  ·rfl
 ·rfl
theorem SV.offC_sc{c:BE}{n:Cnt}{v:SV}(h:v.sc n=true):(v.offC c).sc n=true:=by
 unfold SV.offC;split
 ·rename_i c' v;split
  ·rfl
  ·split
   ·split
    ·rfl
    ·exact h
   ·exact h
 ·split
  ·rfl
  ·exact h
 ·exact h
theorem SV.onC_sc{c:BE}{n:Cnt}{v:SV}(h:v.sc n=true):(v.onC c).sc n=true:=by
 unfold SV.onC;split
 ·rename_i c' v;simp only [SV.sc,Bool.and_eq_true]at h;split
  ·exact h.2
  ·split
   ·split
    ·have h1:=h.1;simp only [BE.sc,Bool.and_eq_true]at h1;simp only [SV.sc,Bool.and_eq_true];exact⟨h1.2,h.2⟩
    ·simp only [SV.sc,Bool.and_eq_true];exact h
   ·simp only [SV.sc,Bool.and_eq_true];exact h
 ·split
  ·rfl
  ·exact h
 ·exact h
theorem look_map{f:SV→SV}{fr:List (Nat×SV)}{s:Nat}{v:SV}(h:look (fr.map fun x=>(x.1,f x.2)) s=some v): ∃u,look fr s=some u∧v=f u:=by
 induction fr with
 | nil=>cases h
 | cons x r ih=>
  obtain⟨t,u⟩:=x;have h':(if t==s then some (f u)else look (r.map fun x=>(x.1,f x.2)) s)=some v:=h;show∃u',(if t==s then some u else look r s)=some u'∧v=f u';split at h'
  ·rename_i ht;cases h';exact⟨u,by rw [if_pos ht],rfl⟩
  ·rename_i ht;obtain⟨u',h1,h2⟩:=ih h';exact⟨u',by rw [if_neg ht];exact h1,h2⟩
theorem HA.onC{st:St}(h:HA st.fr nt ρ a){c:BE}(hc:c.den ρ=true):HA (st.onC c).fr nt ρ a:=
 ⟨h.defers,h.size,fun s v hs=>by
  obtain⟨u,h1,rfl⟩:=look_map (f:=SV.onC c) hs;rw [SV.onC_val hc];exact h.slots s u h1⟩
theorem HA.offC{st:St}(h:HA st.fr nt ρ a){c:BE}(hc:c.den ρ=false):HA (st.offC c).fr nt ρ a:=
 ⟨h.defers,h.size,fun s v hs=>by
  obtain⟨u,h1,rfl⟩:=look_map (f:=SV.offC c) hs;rw [SV.offC_val hc];exact h.slots s u h1⟩
theorem HA.evalUnder(h:HA fr nt ρ a){c:BE}(hc:c.den ρ=true):OpsOk ρ (under c (look fr)) a.eval:=by
 refine⟨fun s v hs=>?_,fun _=>rfl,fun _=>rfl⟩;unfold under at hs;split at hs
 ·rename_i c' v' hl;have:=h.slots s _ hl;split at hs
  ·rename_i he;subst he;cases hs;show a.tmps.getD s undef=_;rw [this,SV.val,if_pos hc]
  ·split at hs
   ·rename_i x y _;split at hs
    ·rename_i he;subst he;cases hs;show a.tmps.getD s undef=_;rw [this];simp only [SV.val,BE.den,hc,Bool.true_and]
    ·cases hs;exact this
   ·cases hs;exact this
 ·exact h.slots s v hs
theorem closed_den{b:BE}(h:b.sc {}=true)(ρ:Env):b.den ρ=b.den env0:=by
 have e:Agree {} ρ {ρ with iv:=[],av:=[],bo:=[],bv:=[],vv:=[],pv:=[],lr:=[]}:=by
  constructor<;>first | rfl | (intro i hi;simp at hi)
 rw [BE.sc_den e h];clear h e;have key: ∀(x:E) (j:Nat),x.den {ρ with iv:=[],av:=[],bo:=[],bv:=[],vv:=[],pv:=[],lr:=[]} j=x.den env0 j:=by
  intro x
  induction x with
  | lit n=>intro j;rfl
  | var i=>intro j;rfl
  | avar i=>intro j;rfl
  | sel a i ha hi=>intro j;simp only [E.den,ha,hi]
  | bin o k a b ha hb=>intro j;simp only [E.den,ha,hb]
  | wrap k a ha=>intro j;simp only [E.den,ha]
  | upd a i v ha hi hv=>intro j;simp only [E.den,ha,hi,hv]
  | shift a o ha ho=>intro j;simp only [E.den,ha,ho]
  | spl a o n b ha ho hn hb=>intro j;simp only [E.den,ha,ho,hn,hb]
  | blk b=>intro j;rfl
  | kc n a ha=>intro j;simp only [E.den];rw [List.map_congr_left fun i _=>ha i]
  | rowl l=>intro j;rfl
  | at2 a i ha hi=>intro j;simp only [E.den,at2F,ha,hi]
  | put2 a i s ha hi hs=>intro j;simp only [E.den,put2F,ha,hi,hs]
  | sby s hs=>intro j;simp only [E.den,sbyF,hs]
  | srow s hs=>intro j;simp only [E.den,hs]
  | scd s hs=>intro j;simp only [E.den,strD,hs]
 have keyf: ∀x:E,x.den {ρ with iv:=[],av:=[],bo:=[],bv:=[],vv:=[],pv:=[],lr:=[]}=x.den env0:=fun x=>funext (key x)
 induction b with
 | lit b=>rfl
 | var i=>rfl
 | eq a b=>simp only [BE.den,key]
 | lt a b=>simp only [BE.den,key]
 | le a b=>simp only [BE.den,key]
 | nz a=>simp only [BE.den,key]
 | aeq n a b=>simp only [BE.den,key]
 | not a ih=>simp only [BE.den,ih]
 | and a b iha ihb=>simp only [BE.den,iha,ihb]
 | or a b iha ihb=>simp only [BE.den,iha,ihb]
 | ite c t e ihc iht ihe=>simp only [BE.den,ihc,iht,ihe]
 | seq a b=>simp only [BE.den,keyf]
 | vnil i=>rfl
theorem decideB_den{known:List BE}(hk: ∀b∈known,b.prop ρ)(b:BE):(decideB known b).den ρ=b.den ρ:=by
 unfold decideB;split
 ·rfl
 ·split
  ·rename_i hc;exact(closed_den hc ρ).symm
  split
  ·rename_i hc;have:=hk b (by simpa using hc);rw [←BE.den_iff]at this;rw [this];rfl
  ·split
   ·rename_i hc;have:=hk (bNot b) (by simpa using hc);rw [←BE.den_iff,bNot_den]at this;simp only [BE.den];cases hb:b.den ρ
    ·rfl
    ·rw [hb]at this;cases this
   ·rfl
theorem SV.fix_val{known:List BE}(hk: ∀b∈known,b.prop ρ)(v:SV):(v.fix known).val ρ=v.val ρ:=by
 unfold SV.fix;split
 ·rename_i c v;have hd:=decideB_den hk c;split
  ·rename_i e;rw [e]at hd;simp [SV.val,←hd,BE.den]
  ·rename_i e;rw [e]at hd;simp [SV.val,←hd,BE.den]
  ·rfl
 ·rename_i b;simp only [SV.val,decideB_den hk b]
 ·rfl
theorem SV.fixG_val{known:List BE}(hk: ∀b∈known,b.prop ρ){c:BE}(hc:c.den ρ=true)(v:SV):(v.fixG c known).val ρ=v.val ρ:=by
 have key: ∀b:BE,known.contains (bNot (bAnd c b))=true→b.den ρ=false:=by
  intro b hb;have:=hk _ (by simpa using hb);rw [←BE.den_iff,bNot_den,bAnd_den,hc]at this;simpa using this
 unfold SV.fixG;split
 ·split
  ·rename_i b hb;simp only [SV.val,key b hb,BE.den]
  ·rfl
 ·split
  ·rename_i b v hb;simp [SV.val,key b hb]
  ·rfl
 ·rfl
theorem HA.evalKnown(h:HA fr nt ρ a){known:List BE}(hk: ∀b∈known,b.prop ρ){g:Option BE}(hg:gden ρ g=true):OpsOk ρ (look? g known fr) a.eval:=by
 refine⟨fun s v hs=>?_,fun _=>rfl,fun _=>rfl⟩;cases g with
 | none=>
  simp only [look?,Option.map_eq_some_iff]at hs;obtain⟨u,hu,rfl⟩:=hs;rw [SV.fix_val hk];exact h.slots s u hu
 | some c=>
  simp only [look?,Option.map_eq_some_iff]at hs;obtain⟨u,hu,rfl⟩:=hs;rw [SV.fixG_val hk hg,SV.fix_val hk];exact(HA.evalUnder h hg).1 s u hu
theorem condOf_sound(h:HA fr nt ρ a){known:List BE}(hk: ∀b∈known,b.prop ρ){x:Operand}{b:BE}(hc:condOf fr known x=some b):a.eval x= .bool (b.den ρ):=by
 unfold condOf at hc;split at hc
 ·rename_i b' he;cases hc;rw [opEval_spec h.eval he,decideB_den hk];rfl
 ·cases hc
theorem yielded_bool{all:Array Oper}{tmps:Array Value}{j d:Nat}{oj:Oper}(hj:all[j]? =some oj)(hd:oj.dst=some d){b:Bool}(hv:tmps.getD d undef= .bool b):
  yielded all tmps j=some b:=by
 unfold yielded;simp only [hj,Option.bind_some,hd];rw [Array.getD_eq_getD_getElem?]at hv;cases ht:tmps[d]? with
 | none=>rw [ht]at hv;cases hv
 | some v=>
  rw [ht]at hv;simp only [Option.getD_some]at hv;subst hv;rfl
theorem yielded_undef{all:Array Oper}{tmps:Array Value}{j d:Nat}{oj:Oper}(hj:all[j]? =some oj)(hd:oj.dst=some d)(hv:tmps.getD d undef=undef):
  yielded all tmps j=none:=by
 unfold yielded;simp only [hj,Option.bind_some,hd];rw [Array.getD_eq_getD_getElem?]at hv;cases ht:tmps[d]? with
 | none=>rfl
 | some v=>
  rw [ht]at hv;simp only [Option.getD_some]at hv;subst hv;rfl
theorem guardOf_sound(h:HA fr nt ρ a){all:Array Oper}{o:Oper}{g:Option BE}(hg:guardOf all fr o=some g):
  Region.wanted o (yielded all a.tmps)=gden ρ g:=by
 unfold guardOf at hg;split at hg
 ·rename_i hn;cases hg;simp [Region.wanted,hn,gden]
 ·rename_i j want hn;split at hg
  ·rename_i oj hj;split at hg
   ·rename_i d hd;split at hg
    ·rename_i b hl;cases hg;have:=yielded_bool hj hd (h.slots d _ hl);simp only [Region.wanted,hn,this,gden];cases want
     ·simp only [Bool.false_eq_true,if_false,bNot_den];cases b.den ρ<;>rfl
     ·simp only [if_true];cases b.den ρ<;>rfl
    ·rename_i c b hl;cases hg;have h1:=h.slots d _ hl;simp only [SV.val]at h1;simp only [Region.wanted,hn,gden,bAnd_den];cases hc:c.den ρ with
     | true=>
      rw [hc,if_pos rfl]at h1;rw [yielded_bool hj hd h1];cases want
      ·simp only [Bool.false_eq_true,if_false,bNot_den,Bool.true_and];cases b.den ρ<;>rfl
      ·simp only [if_true,Bool.true_and];cases b.den ρ<;>rfl
     | false=>
      rw [hc,if_neg (by simp)]at h1;rw [yielded_undef hj hd h1];rfl
    ·rename_i hl;cases hg;rw [Region.wanted,hn];simp only [yielded_undef hj hd (h.slots d _ hl),gden,BE.den];rfl
    ·rename_i c hl;cases hg;have h1:=h.slots d _ hl;simp only [SV.val,ite_self]at h1;rw [Region.wanted,hn];simp only [yielded_undef hj hd h1,gden,BE.den];rfl
    ·cases hg
   ·cases hg
  ·cases hg
theorem guardAt_sound(h:HA fr nt ρ a){all:Array Oper}{known:List BE}(hk: ∀b∈known,b.prop ρ){o:Oper}{g:Option BE}(hg:guardAt all fr known o=some g):
  Region.wanted o (yielded all a.tmps)=gden ρ g:=by
 unfold guardAt at hg;split at hg
 ·rename_i b hb;rw [guardOf_sound h hb];have hd:=decideB_den hk b;split at hg
  ·rename_i he;cases hg;rw [he]at hd;exact hd.symm
  ·cases hg;exact hd.symm
 ·rw [guardOf_sound h hg]
theorem gvc_use{g:Option BE}{b:BE}(h:(gvc g b).prop ρ)(hg:gden ρ g=true):b.prop ρ:=by
 cases g with
 | none=>exact h
 | some c=>
  simp only [gvc,gden]at h hg;rw [←BE.den_iff,bOr_den,bNot_den,hg]at h;rw [←BE.den_iff];simpa using h
theorem sure_prop{b:BE}(h:b.sure=true)(ρ:Env):b.den ρ=true:=by
 simp only [BE.sure,Bool.and_eq_true]at h;rw [closed_den h.1];exact h.2
theorem wrapVc_sound{Post:Value→List HP→Prop}{g:Option BE}{known:List BE}{r:F}{L:Nat→LC}(hk: ∀b∈known,b.prop ρ): ∀{vcs:List BE},VC P Post (wrapVc g vcs known r) ρ L→
  (gden ρ g=true→∀b∈vcs,b.prop ρ)∧VC P Post r ρ L
 | [],h=>⟨fun _ b hb=>(by cases hb),h⟩
 | b::bs,h=>by
  unfold wrapVc at h;split at h
  ·rename_i hc;obtain⟨h1,h2⟩:=wrapVc_sound hk h;refine⟨fun hg x hx=>?_,h2⟩;rcases List.mem_cons.1 hx with rfl | hx
   ·rw [Bool.or_eq_true,Bool.or_eq_true]at hc;rcases hc with(hc | hc) | hc
    ·rw [beq_iff_eq]at hc;exact gvc_use (by rw [hc];rfl) hg
    ·exact gvc_use (hk _ (by simpa using hc)) hg
    ·exact gvc_use ((BE.den_iff _ _).1 (sure_prop hc _)) hg
   ·exact h1 hg x hx
  ·simp only [VC,Need]at h;obtain⟨h1,h2⟩:=wrapVc_sound hk (h.2 h.1);refine⟨fun hg x hx=>?_,h2⟩;rcases List.mem_cons.1 hx with rfl | hx
   ·exact gvc_use h.1 hg
   ·exact h1 hg x hx
theorem optAll_vals{look:Nat→Option SV}{α:Type}{f:α→Option SV}{g:α→Sem Value}(hf: ∀x v,f x=some v→(g x).run P w= .ok (v.val ρ) w): ∀(xs:List α) (vs:List SV),optAll (xs.map f)=some vs→
  (xs.mapM g).run P w= .ok (SV.vals ρ vs) w
 | [],vs,he=>by simp [optAll]at he;subst he;simp [SV.vals]
 | x::r,vs,he=>by
  simp only [List.map_cons]at he;cases hx:f x with
  | none=>rw [hx]at he;simp [optAll]at he
  | some v=>
   rw [hx]at he;simp only [optAll,Option.map_eq_some_iff]at he;obtain⟨rs,hrs,rfl⟩:=he;have:=optAll_vals (look:=look) hf r rs hrs;simp [List.mapM_cons,hf x v hx,this,SV.vals]
def resGo(tmps:Array Value):ResultVar→Sem Value
 | .tmp t=>pure (tmps.getD t undef)
 | .cell c t=>do loadVar t (←asAddr (tmps.getD c undef))
theorem results_eq(fn:Func)(tmps:Array Value):results fn tmps=(do let vs←fn.results.mapM (resGo tmps);pure (if h:vs.size=1 then vs[0]else .tuple vs)):=by
 unfold results;congr 2
theorem resAll_sound{T:List TI}(hT:checkT P T=true){st:St}(hw:HW Fs w0 st ρ w)(ha:HA st.fr nt ρ a){fn:Func}{v:SV}(hv:resAll T st fn=some v):
  (results fn a.tmps).run P w= .ok (v.val ρ) w:=by
 obtain⟨S,hS⟩:=hw.own;have one: ∀(x:ResultVar) (u:SV),resOne T st x=some u→
   (resGo a.tmps x).run P w= .ok (u.val ρ) w:=by
  intro x u hx;unfold resGo;cases x with
  | tmp t=>
   have:=ha.slots t u hx;simp only [this,Sem.run_pure]
  | cell c t=>
   simp only [resOne]at hx;split at hx
   ·rename_i ti y hti hy;split at hx
    ·rename_i r hr;split at hx
     ·rename_i he;cases hx;obtain⟨rfl,hi⟩:=tlook_spec hT hti;have hrd:Reads st.hp ρ w S r.rd:=by
       intro j _ ck hj;refine(hS.at_ j (ck.den ρ) ?_).1;rw [List.getElem?_append_left (by simpa using (List.getElem?_eq_some_iff.1 hj).1),List.getElem?_map,hj];rfl
      have h1:=(loadSym_sound hi hr hrd (by rw [List.isEmpty_iff.1 he];intro b hb;cases hb)).1;have h2:=ha.slots c y hy;simp only [h2];unfold Instr.loadAt at h1;cases hval:y.val ρ with
      | pointer p=>
       cases p with
       | some ad=>
        rw [hval]at h1;simpa [Instr.sureAddr,asAddr] using h1
       | none=>rw [hval]at h1;simp [Instr.sureAddr]at h1
      | _=>rw [hval]at h1;simp [Instr.sureAddr]at h1
     ·cases hx
    ·cases hx
   ·cases hx
 unfold resAll at hv;have key: ∀vs,optAll (fn.results.toList.map (resOne T st))=some vs→
   (fn.results.mapM (resGo a.tmps)).run P w= .ok (SV.vals ρ vs).toArray w:=by
  intro vs hvs;have:=optAll_vals (look:=fun _=>none) one _ vs hvs;rw [Array.mapM_eq_mapM_toList];simp [this]
 split at hv
 ·rename_i u hu;cases hv;have:=key _ hu;rw [results_eq];simp only [Sem.run_bind];rw [this];simp [SV.vals]
 ·rename_i vs hne hvs;cases hv;have:=key _ hvs;rw [results_eq];simp only [Sem.run_bind];rw [this];have hl:(SV.vals ρ vs).length≠1:=by
   intro h1;have: ∀l:List SV,(SV.vals ρ l).length=l.length:=by
    intro l;induction l with
    | nil=>rfl
    | cons x r ih=>simp [SV.vals,ih]
   rw [this]at h1;obtain⟨x,rfl⟩:=List.length_eq_one_iff.1 h1;exact hne x rfl
  simp [hl,SV.val]
 ·cases hv
end
end Go.RX
