/- A reflective symbolic executor, part 25a: regions whose order is drawn. · A reflective symbolic executor, part 25b: regions whose order is drawn, second half. · A reflective symbolic executor, part 25c: regions whose order is drawn: each step. -/
import Derived.Test.YtfnaoeleljhmhaaGreatRxY

namespace Go.RX
abbrev Wr:=Nat×Option Nat×Value
def puts(a:Act)(W:List Wr):Act:=W.foldl (fun a x=>a.put x.2.1 x.2.2) a
theorem puts_append(a:Act)(x y:List Wr):puts a (x++y)=puts (puts a x) y:=List.foldl_append ..
theorem puts_one(a:Act)(i:Nat)(d:Option Nat)(v:Value):puts a [(i,d,v)]=a.put d v:=rfl
theorem put_size(a:Act)(d:Option Nat)(v:Value):(a.put d v).tmps.size=a.tmps.size:=by cases d<;>simp [Act.put]
theorem put_defers(a:Act)(d:Option Nat)(v:Value):(a.put d v).defers=a.defers:=by cases d<;>rfl
theorem puts_size: ∀(W:List Wr) (a:Act),(puts a W).tmps.size=a.tmps.size
 | [],_=>rfl
 | x::r,a=>by
  show(puts (a.put x.2.1 x.2.2) r).tmps.size=_;rw [puts_size r,put_size]
theorem puts_defers: ∀(W:List Wr) (a:Act),(puts a W).defers=a.defers
 | [],_=>rfl
 | x::r,a=>by
  show(puts (a.put x.2.1 x.2.2) r).defers=_;rw [puts_defers r,put_defers]
theorem put_other(a:Act)(d:Option Nat)(v:Value)(s:Nat)(h:d≠some s):(a.put d v).tmps.getD s undef=a.tmps.getD s undef:=by
 cases d with
 | none=>rfl
 | some d=>
  have:d≠s:=fun e=>h (by rw [e])
  simp only [Act.put];rw [Array.getD_eq_getD_getElem?,Array.getD_eq_getD_getElem?,Array.getElem?_setIfInBounds_ne this]
theorem put_self(a:Act)(d:Nat)(v:Value)(h:d<a.tmps.size):(a.put (some d) v).tmps.getD d undef=v:=by
 simp only [Act.put];rw [Array.getD_eq_getD_getElem?,Array.getElem?_setIfInBounds_self_of_lt h];rfl
theorem put_same(a b:Act)(d:Option Nat)(v:Value)(s:Nat)(hs:a.tmps.size=b.tmps.size)(h:a.tmps.getD s undef=b.tmps.getD s undef):
  (a.put d v).tmps.getD s undef=(b.put d v).tmps.getD s undef:=by
 by_cases hd:d=some s
 ·subst hd;by_cases hlt:s<a.tmps.size
  ·rw [put_self a s v hlt,put_self b s v (by omega)]
  ·simp only [Act.put];rw [Array.getD_eq_getD_getElem?,Array.getD_eq_getD_getElem?,Array.getElem?_eq_none (by simpa using hlt),Array.getElem?_eq_none (by simp;omega)]
 ·rw [put_other a d v s hd,put_other b d v s hd,h]
theorem puts_slot(s:Nat): ∀(W:List Wr) (a b:Act),a.tmps.size=b.tmps.size→a.tmps.getD s undef=b.tmps.getD s undef→
  (puts a W).tmps.getD s undef=(puts b (W.filter fun x=>x.2.1==some s)).tmps.getD s undef
 | [],a,b,_,h=>h
 | x::r,a,b,hs,h=>by
  show(puts (a.put x.2.1 x.2.2) r).tmps.getD s undef=_;by_cases hx:x.2.1=some s
  ·rw [List.filter_cons_of_pos (by simpa using hx)];show _=(puts (b.put x.2.1 x.2.2) _).tmps.getD s undef;exact puts_slot s r _ _ (by rw [put_size,put_size,hs]) (put_same a b _ _ s hs h)
  ·rw [List.filter_cons_of_neg (by simpa using hx)];exact puts_slot s r _ _ (by rw [put_size,hs]) (by rw [put_other a _ _ s hx,h])
theorem put_comm(a:Act){d d':Option Nat}(v v':Value)(h: ∀s,d=some s→d'≠some s):(a.put d v).put d' v'=(a.put d' v').put d v:=by
 cases d with
 | none=>rfl
 | some d=>
  cases d' with
  | none=>rfl
  | some d'=>
   have:d≠d':=fun e=>h d rfl (by rw [e])
   simp only [Act.put];rw [Array.setIfInBounds_comm _ _ this]
theorem puts_comm(d:Option Nat)(v:Value): ∀(W:List Wr) (a:Act),(∀x∈W,∀s,d=some s→x.2.1≠some s)→puts (a.put d v) W=(puts a W).put d v
 | [],_,_=>rfl
 | x::r,a,h=>by
  show puts ((a.put d v).put x.2.1 x.2.2) r=(puts (a.put x.2.1 x.2.2) r).put d v;rw [put_comm a v x.2.2 (h x List.mem_cons_self)];exact puts_comm d v r _ fun y hy=>h y (List.mem_cons_of_mem _ hy)
section order
variable {all:Array Oper} {pm:List Nat}
theorem pmOk_spec(h:pmOk all pm=true){p:Nat}{o:Oper}(ho:all[p]? =some o):
  (∀e∈o.after,Region.binds .any e=true→e.on<p)∧
  ∀q,q<all.size→(pm.getD p 0).testBit q=true→∃e∈o.after,Region.binds .any e=true∧(q=e.on∨(pm.getD e.on 0).testBit q=true):=by
 have hp:p<all.size:=(Array.getElem?_eq_some_iff.1 ho).1;have:=List.all_eq_true.1 h p (List.mem_range.2 hp);simp only [ho,Bool.and_eq_true]at this;refine⟨fun e he hb=>?_,fun q hq hbit=>?_⟩
 ·have h1:=List.all_eq_true.1 this.1 e (by simpa using he);simpa [hb,Nat.blt_eq] using h1
 ·have h1:=List.all_eq_true.1 this.2 q (List.mem_range.2 hq);rw [hbit]at h1;simp only [Bool.not_true,Bool.false_or]at h1;obtain⟨e,he,h2⟩:=List.any_eq_true.1 h1;simp only [Bool.and_eq_true,Bool.or_eq_true,beq_iff_eq]at h2;exact⟨e,by simpa using he,h2.1,h2.2⟩
theorem closed_pm(h:pmOk all pm=true)(X:Nat→Prop)(hX: ∀p o,all[p]? =some o→X p→∀e∈o.after,Region.binds .any e=true→X e.on):
  ∀(p:Nat) (o:Oper),all[p]? =some o→X p→∀q,q<all.size→(pm.getD p 0).testBit q=true→X q:=by
 intro p
 induction p using Nat.strongRecOn with
 | _ p ih=>
  intro o ho hXp q hq hbit;obtain⟨h1,h2⟩:=pmOk_spec h ho;obtain⟨e,he,hb,hor⟩:=h2 q hq hbit;have hXe:=hX p o ho hXp e he hb;rcases hor with rfl | hbit'
  ·exact hXe
  ·have hlt:=h1 e he hb;have hp:p<all.size:=(Array.getElem?_eq_some_iff.1 ho).1;have hoe:all[e.on]? =some all[e.on]:=Array.getElem?_eq_getElem (by omega);exact ih e.on hlt _ hoe hXe q hq hbit'
theorem ahead_pm(h:pmOk all pm=true)(X:Nat→Prop)(hX: ∀p o,all[p]? =some o→X p→∀e∈o.after,Region.binds .any e=true→X e.on)
  {p:Nat} {o:Oper} (ho:all[p]? =some o) (hr: ∀e∈o.after,Region.binds .any e=true→X e.on) {q:Nat} (hq:q<all.size) (hbit:(pm.getD p 0).testBit q=true):X q:=by
 obtain⟨h1,h2⟩:=pmOk_spec h ho;obtain⟨e,he,hb,hor⟩:=h2 q hq hbit;have hXe:=hr e he hb;rcases hor with rfl | hbit'
 ·exact hXe
 ·have hlt:=h1 e he hb;have hp:p<all.size:=(Array.getElem?_eq_some_iff.1 ho).1;have hoe:all[e.on]? =some all[e.on]:=Array.getElem?_eq_getElem (by omega);exact closed_pm h X hX e.on _ hoe hXe q hq hbit'
theorem orderedB_spec(h:orderedB all pm=true){i j d:Nat}{oi oj:Oper}(hi:all[i]? =some oi)(hj:all[j]? =some oj)(hd:oi.dst=some d)
  (hs:d∈slotsOf all oj∨oj.dst=some d) (hne:i≠j):(pm.getD j 0).testBit i=true∨(pm.getD i 0).testBit j=true:=by
 have hil:i<all.size:=(Array.getElem?_eq_some_iff.1 hi).1;have hjl:j<all.size:=(Array.getElem?_eq_some_iff.1 hj).1;have h1:=List.all_eq_true.1 h i (List.mem_range.2 hil);simp only [hi,hd]at h1;have h2:=List.all_eq_true.1 h1 j (List.mem_range.2 hjl);simp only [hj,Bool.or_eq_true,beq_iff_eq,Bool.not_eq_true',Bool.or_eq_false_iff,beq_eq_false_iff_ne]at h2;rcases h2 with((h2 | h2) | h2) | h2
 ·exact absurd h2 hne
 ·rcases hs with hs | hs
  ·have:(slotsOf all oj).contains d=true:=by simpa using hs
   rw [this]at h2;cases h2.1
  ·exact absurd hs h2.2
 ·exact .inl h2
 ·exact .inr h2
end order
end Go.RX

namespace Go.RX
theorem look_filter_true{x:List (Nat×SV)}{f:Nat→Bool}{s:Nat}{v:SV}(h:look (x.filter fun y=>f y.1) s=some v):f s=true:=by
 induction x with
 | nil=>cases h
 | cons t r ih=>
  obtain⟨q,u⟩:=t;by_cases hf:f q=true
  ·rw [List.filter_cons_of_pos (by exact hf)]at h;unfold look at h;split at h
   ·rename_i hq;rw [beq_iff_eq]at hq;subst hq;exact hf
   ·exact ih h
  ·rw [List.filter_cons_of_neg (by exact hf)]at h;exact ih h
section
variable {P:Program} {C:Ctx} {Post:Value→List HP→Prop} {Fs:List HP} {w0:World} {all:Array Oper} {pm:List Nat}
def Will(P:Program)(all:Array Oper)(ro:Option Nat)(nt:NT)(i:Nat)(o:Oper)(v:Value)(base:Act)(hp:List Ck)(ρ:Env)(rd:List Nat):Prop:=
 ∀(a':Act) (w':World) (S:Nat→Nat→Prop) (K:Act→World→Prop) (Q:Exit→Act→World→Prop),(∀s∈slotsOf all o,a'.tmps.getD s undef=base.tmps.getD s undef)→a'.defers=base.defers→nt.n≤a'.tmps.size→
  Reads hp ρ w' S rd→K (a'.put o.dst v) w'→wpOpIn (FW ro) 0 P all Q i K a' w'
theorem restrict_HA{fr:List (Nat×SV)}{nt:NT}{ρ:Env}{base a':Act}{slots:List Nat}(h:HA fr nt ρ base)(hs: ∀s∈slots,a'.tmps.getD s undef=base.tmps.getD s undef)(hd:a'.defers=base.defers)(hn:nt.n≤a'.tmps.size):
  HA (restrict fr slots) nt ρ a':=by
 refine⟨hd.trans h.defers,hn,fun s v hl=>?_⟩;have h1:=look_of_filter (f:=fun q=>slots.contains q) hl;have h2:=look_filter_true (f:=fun q=>slots.contains q) hl;rw [hs s (by simpa using h2),h.slots s v h1]
theorem quiet_will(hT:checkT P C.T=true){ro:Option Nat}{nt:NT}{i:Nat}{o:Oper}(hi:all[i]? =some o){st:St}{ρ:Env}{base:Act}{g:Option BE}{res:Res}
  (hg:guardAt all (restrict st.fr (slotsOf all o)) st.known o=some g) (hr:stepQ C g {st with fr:=restrict st.fr (slotsOf all o)} o=some res) (he:res.eff= .none)
  (hk: ∀b∈st.known,b.prop ρ) (hl:Lens ρ st.cnt) (hvc:gden ρ g=true→∀b∈res.vcs,b.prop ρ) (ha:HA st.fr nt ρ base):
  Will P all ro nt i o (if gden ρ g then res.val.val ρ else undef) base st.hp ρ res.rd:=by
 intro a' w' S K Q hs hd hn hrd hK;have ha':=restrict_HA ha hs hd hn;have hwant:=guardAt_sound ha' hk hg;unfold wpOpIn;simp only [hi];rw [hwant];cases hgd:gden ρ g with
 | false=>
  rw [if_neg (by simp)];rw [hgd,if_neg (by simp)]at hK;exact⟨fun _ _=>trivial,hK⟩
 | true=>
  rw [if_pos rfl];rw [hgd,if_pos rfl]at hK;have hr:stepVal C g {st with fr:=restrict st.fr (slotsOf all o)} o=some res:=by
   rcases stepQ_spec hr with⟨rfl,_⟩ | hr
   ·cases hgd
   ·exact hr
  obtain⟨hsym,hrsc⟩:=stepVal_spec hr;have hops:OpsOk ρ (look? g st.known (restrict st.fr (slotsOf all o))) a'.eval:=ha'.evalKnown hk hgd;have hD:=symOp_sound (P:=P) hT (Env.ok ρ) hops hsym hrd (hvc hgd) hl.b;unfold Did at hD;rw [he]at hD;exact wpIn_of_run (not_defer hsym) (.inl hD) hK
abbrev lst(listed:Array Bool)(i:Nat):Bool:=listed.getD i false
structure DI (P:Program) (Fs:List HP) (w0:World) (all:Array Oper) (ro:Option Nat) (nt:NT) (a0:Act) (listed:Array Bool) (a:Act) (w:World)
  (rest:List Nat) (done:Nat) (log:List (Nat×List Nat)) (st:St) (ρ:Env) (W:List Wr):Prop where
 hw:HW Fs w0 st ρ w
 hnt:st.nt=nt
 act:a=puts a0 (W.filter fun x=>lst listed x.1)
 ha:HA st.fr nt ρ (puts a0 W)
 nd:(W.map (·.1)).Nodup
 done: ∀i,done.testBit i=true↔i∈W.map (·.1)
 rest: ∀i,i∈rest↔i<all.size∧i ∉ W.map (·.1)
 sub: ∀i,lst listed i=true→i∈W.map (·.1)
 lsz:listed.size=all.size
 clL: ∀p o,all[p]? =some o→lst listed p=true→∀e∈o.after,Region.binds .any e=true→lst listed e.on=true
 clW: ∀W1 x W2,W=W1++x::W2→∃o,all[x.1]? =some o∧x.2.1=o.dst∧∀e∈o.after,Region.binds .any e=true→e.on∈W1.map (·.1)
 pend: ∀W1 x W2,W=W1++x::W2→lst listed x.1=false→∃o rd hp ρ',all[x.1]? =some o∧(x.1,rd)∈log∧Will P all ro nt x.1 o x.2.2 (puts a0 W1) hp ρ' rd∧
  ∀j∈rd,∀ck,hp[j]? =some ck→∃ck',st.hp[j]? =some ck'∧ck'.den ρ=ck.den ρ'
section agree
variable {ro:Option Nat} {nt:NT} {a0:Act} {listed:Array Bool} {a:Act} {w:World} {rest:List Nat} {done:Nat} {log:List (Nat×List Nat)} {st:St} {ρ:Env} {W:List Wr}
theorem DI.clPre(h:DI P Fs w0 all ro nt a0 listed a w rest done log st ρ W){A B:List Wr}(hW:W=A++B):
  ∀p o,all[p]? =some o→p∈A.map (·.1)→∀e∈o.after,Region.binds .any e=true→e.on∈A.map (·.1):=by
 intro p o ho hp e he hb;obtain⟨y,hy,rfl⟩:=List.mem_map.1 hp;obtain⟨A1,A2,rfl⟩:=List.append_of_mem hy;obtain⟨o',ho',_,hpre⟩:=h.clW A1 y (A2++B) (by rw [hW];simp);rw [ho]at ho';cases ho';have:=hpre e he hb;rw [List.map_append];exact List.mem_append_left _ this
theorem DI.before(h:DI P Fs w0 all ro nt a0 listed a w rest done log st ρ W)(hord:orderedB all pm=true)(hpm:pmOk all pm=true){i:Nat}{o:Oper}(hi:all[i]? =some o)
  (hready: ∀e∈o.after,Region.binds .any e=true→lst listed e.on=true) {W1 tail:List Wr} (hW:W=W1++tail) (hni:i ∉ W1.map (·.1)) {s:Nat} (hs:s∈slotsOf all o∨o.dst=some s):
  ∀y∈W1,y.2.1=some s→lst listed y.1=true:=by
 intro y hy hys;obtain⟨A,B,rfl⟩:=List.append_of_mem hy;obtain⟨oy,hoy,hdy,hpre⟩:=h.clW A y (B++tail) (by rw [hW];simp);have hne:y.1≠i:=fun e=>hni (by rw [←e];simp)
 have hyl:y.1<all.size:=(Array.getElem?_eq_some_iff.1 hoy).1;have hil:i<all.size:=(Array.getElem?_eq_some_iff.1 hi).1;rcases orderedB_spec hord hoy hi (hdy▸hys) hs hne with hb | hb
 ·exact ahead_pm hpm (fun q=>lst listed q=true) h.clL hi hready hyl hb
 ·have:=ahead_pm hpm (fun q=>q∈A.map (·.1)) (h.clPre (A:=A) (B:=y::(B++tail)) (by rw [hW];simp)) hoy hpre hil hb;exact absurd (by rw [List.map_append];exact List.mem_append_left _ this) hni
theorem DI.behind(h:DI P Fs w0 all ro nt a0 listed a w rest done log st ρ W)(hord:orderedB all pm=true)(hpm:pmOk all pm=true){W1 W2:List Wr}{x:Wr}{o:Oper}(hi:all[x.1]? =some o)
  (hnl:lst listed x.1=false) (hW:W=W1++x::W2) {s:Nat} (hs:s∈slotsOf all o∨o.dst=some s):
  ∀y∈W2,y.2.1=some s→lst listed y.1=false:=by
 intro y hy hys;obtain⟨A,B,rfl⟩:=List.append_of_mem hy;obtain⟨oy,hoy,hdy,hpre⟩:=h.clW (W1++x::A) y B (by rw [hW];simp);obtain⟨ox,hox,_,hprex⟩:=h.clW W1 x (A++y::B) hW;rw [hi]at hox;cases hox;have hnd:=h.nd;rw [hW]at hnd;simp only [List.map_append,List.map_cons]at hnd;rw [List.nodup_append]at hnd;obtain⟨_,hnd2,hnd3⟩:=hnd;have hyl:y.1<all.size:=(Array.getElem?_eq_some_iff.1 hoy).1;have hil:x.1<all.size:=(Array.getElem?_eq_some_iff.1 hi).1;have hne:y.1≠x.1:=fun e=>by
  have:=(List.nodup_cons.1 hnd2).1;exact this (by rw [←e];simp)
 rcases orderedB_spec hord hoy hi (hdy▸hys) hs hne with hb | hb
 ·have:=ahead_pm hpm (fun q=>q∈W1.map (·.1)) (h.clPre (A:=W1) (B:=x::(A++y::B)) hW) hi hprex hyl hb;exact absurd rfl (hnd3 _ this _ (by simp))
 ·cases hl:lst listed y.1 with
  | false=>rfl
  | true=>
   have:=closed_pm hpm (fun q=>lst listed q=true) h.clL y.1 oy hoy hl x.1 hil hb;rw [hnl]at this;cases this
theorem agree_slots{W1 tail:List Wr}{s:Nat}(h1: ∀y∈W1,y.2.1=some s→lst listed y.1=true)(h2: ∀y∈tail,y.2.1=some s→lst listed y.1=false):
  (puts a0 ((W1++tail).filter fun x=>lst listed x.1)).tmps.getD s undef=(puts a0 W1).tmps.getD s undef:=by
 rw [puts_slot s _ a0 a0 rfl rfl,puts_slot s W1 a0 a0 rfl rfl];have e2:(tail.filter fun x=>lst listed x.1).filter (fun x=>x.2.1==some s)=[]:=by
  rw [List.filter_filter,List.filter_eq_nil_iff];intro y hy hc;simp only [Bool.and_eq_true,beq_iff_eq]at hc;rw [h2 y hy hc.1]at hc;cases hc.2
 have e1:(W1.filter fun x=>lst listed x.1).filter (fun x=>x.2.1==some s)=W1.filter (fun x=>x.2.1==some s):=by
  rw [List.filter_filter];refine List.filter_congr fun y hy=>?_
  by_cases hys:y.2.1=some s
  ·rw [h1 y hy hys,Bool.and_true]
  ·have:(y.2.1==some s)=false:=by simpa using hys
   rw [this,Bool.false_and]
 rw [List.filter_append,List.filter_append,e1,e2,List.append_nil]
end agree
end
end Go.RX

namespace Go.RX
theorem testBit_set(done i j:Nat):(done|||(1 <<< i)).testBit j=(done.testBit j||decide (i=j)):=by
 rw [Nat.testBit_or,Nat.one_shiftLeft,Nat.testBit_two_pow]
theorem snoc_cases{α:Type}{W:List α}{x:α}{W1:List α}{y:α}{W2:List α}(h:W++[x]=W1++y::W2):(W2=[]∧y=x∧W1=W)∨∃W2',W2=W2'++[x]∧W=W1++y::W2':=by
 rcases List.eq_nil_or_concat W2 with rfl | ⟨W2',z,rfl⟩
 ·left;have:=List.append_inj' h rfl;exact⟨rfl,by simpa using this.2.symm,this.1.symm⟩
 ·right;have h':W++[x]=(W1++y::W2')++[z]:=by rw [h];simp [List.concat_eq_append]
  have:=List.append_inj' h' rfl;have hz:x=z:=by simpa using this.2
  subst hz;exact⟨W2',by simp [List.concat_eq_append],this.1⟩
theorem readyB_spec{all:Array Oper}{done i:Nat}(h:readyB all done i=true): ∃o,all[i]? =some o∧∀e∈o.after,Region.binds .any e=true→done.testBit e.on=true:=by
 unfold readyB at h;split at h
 ·rename_i o ho;refine⟨o,ho,fun e he hb=>?_⟩;have:=List.all_eq_true.1 h e (by simpa using he);simpa [hb] using this
 ·cases h
theorem readyB_of{all:Array Oper}{done i:Nat}{o:Oper}(ho:all[i]? =some o)(h: ∀e∈o.after,Region.binds .any e=true→done.testBit e.on=true):readyB all done i=true:=by
 unfold readyB;simp only [ho];refine List.all_eq_true.2 fun e he=>?_
 cases hb:Region.binds .any e with
 | false=>rfl
 | true=>rw [h e (by simpa using he) hb];rfl
section
variable {P:Program} {C:Ctx} {Post:Value→List HP→Prop} {Fs:List HP} {w0:World} {all:Array Oper} {pm:List Nat}
variable {ro:Option Nat} {nt:NT} {a0:Act} {listed:Array Bool} {a:Act} {w:World} {rest:List Nat} {done:Nat} {log:List (Nat×List Nat)} {st:St} {ρ:Env} {W:List Wr}
theorem DI.quiet(hT:checkT P C.T=true)(h:DI P Fs w0 all ro nt a0 listed a w rest done log st ρ W){i:Nat}{o:Oper}(hir:i∈rest)(hrd:readyB all done i=true)(hi:all[i]? =some o)(hdst:okDst st o.dst=true)
  {g:Option BE} {res:Res} (hg:guardAt all (restrict st.fr (slotsOf all o)) st.known o=some g) (hgs:gsc st.cnt g=true)
  (hr:stepQ C g {st with fr:=restrict st.fr (slotsOf all o)} o=some res) (he:res.eff= .none) (hvc:gden ρ g=true→∀b∈res.vcs,b.prop ρ):
  DI P Fs w0 all ro nt a0 listed a w (rest.filter fun j=>j != i) (done|||(1 <<< i)) ((i,res.rd)::log)
   (({st with known:=gknown g res.vcs st.known}:St).put o.dst (gval g res.val)) ρ
   (W++[(i,o.dst,if gden ρ g then res.val.val ρ else undef)]):=by
 have hrsc:res.sc st.cnt=true:=by
  rcases stepQ_spec hr with⟨_,rfl⟩ | hr
  ·rfl
  ·exact(stepVal_spec hr).2
 have hrsc':=hrsc;simp only [Res.sc,Bool.and_eq_true,he,Eff.grow]at hrsc';obtain⟨⟨hs1,hs2⟩,_⟩:=hrsc';have hiW:i ∉ W.map (·.1):=((h.rest i).1 hir).2;have hnl:lst listed i=false:=by
  cases hl:lst listed i with
  | false=>rfl
  | true=>exact absurd (h.sub i hl) hiW
 have hv:(if gden ρ g=true then res.val.val ρ else undef)=(gval g res.val).val ρ:=by
  cases g with
  | none=>rfl
  | some c=>rfl
 have hsc:(gval g res.val).sc st.cnt=true:=by
  cases g with
  | none=>exact hs1
  | some c=>simp only [gval,SV.sc,Bool.and_eq_true];exact⟨hgs,hs1⟩
 have hw1:HW Fs w0 ({st with known:=gknown g res.vcs st.known}:St) ρ w:=by
  cases g with
  | some c=>exact h.hw
  | none=>
   refine⟨h.hw.lens,h.hw.scf,h.hw.sch,?_,fun b hb=>?_,h.hw.own,h.hw.same,h.hw.scd⟩
   ·show(more res.vcs st.known).all (BE.sc st.cnt)=true;unfold more;rw [List.all_append,h.hw.sck,Bool.and_true];exact List.all_eq_true.2 fun x hx=>List.all_eq_true.1 hs2 x (List.mem_filter.1 hx).1
   ·exact(List.mem_append.1 hb).elim (fun hm=>hvc rfl b (List.mem_filter.1 hm).1) (h.hw.kn b)
 have e:=put_rest ({st with known:=gknown g res.vcs st.known}:St) o.dst (gval g res.val);refine⟨hw1.put hsc,by rw [e.2.2.2.1];exact h.hnt,?_,?_,?_,?_,?_,?_,h.lsz,h.clL,?_,?_⟩
 ·rw [List.filter_append,List.filter_cons_of_neg (by simp [hnl]),List.filter_nil,List.append_nil];exact h.act
 ·rw [puts_append,puts_one];refine HA.put h.ha (fun x hx=>?_) hv _ rfl;rw [←h.hnt];exact okDst_lt hdst x hx
 ·rw [List.map_append,List.nodup_append];exact⟨h.nd,by simp,fun x hx y hy=>by
   simp only [List.map_cons,List.map_nil,List.mem_singleton]at hy;subst hy;intro hxy;subst hxy;exact hiW hx⟩
 ·intro j;rw [testBit_set,Bool.or_eq_true,h.done,List.map_append,List.mem_append];simp only [decide_eq_true_eq,List.map_cons,List.map_nil,List.mem_singleton];exact⟨fun hj=>hj.imp id Eq.symm,fun hj=>hj.imp id Eq.symm⟩
 ·intro j;rw [List.mem_filter,h.rest,List.map_append,List.mem_append];simp only [bne_iff_ne,ne_eq,List.map_cons,List.map_nil,List.mem_singleton,not_or,and_assoc]
 ·intro j hj;rw [List.map_append];exact List.mem_append_left _ (h.sub j hj)
 ·intro W1 x W2 hW;rcases snoc_cases hW with⟨rfl,rfl,rfl⟩ | ⟨W2',rfl,hW'⟩
  ·obtain⟨o',ho',hpre⟩:=readyB_spec hrd;rw [hi]at ho';cases ho';exact⟨o,hi,rfl,fun e he hb=>(h.done _).1 (hpre e he hb)⟩
  ·exact h.clW W1 x W2' hW'
 ·intro W1 x W2 hW hnlx;rcases snoc_cases hW with⟨rfl,rfl,rfl⟩ | ⟨W2',rfl,hW'⟩
  ·refine⟨o,res.rd,st.hp,ρ,hi,List.mem_cons_self,?_,fun j _ ck hck=>⟨ck,by rw [e.1];exact hck,rfl⟩⟩;exact quiet_will hT hi hg hr he h.hw.kn h.hw.lens hvc (h.ha)
  ·obtain⟨o',rd,hp,ρ',h1,h2,h3,h4⟩:=h.pend W1 x W2' hW' hnlx;exact⟨o',rd,hp,ρ',h1,List.mem_cons_of_mem _ h2,h3,by rw [e.1];exact h4⟩
theorem lst_set{listed:Array Bool}{i j:Nat}(hi:i<listed.size):lst (listed.setIfInBounds i true) j=(decide (i=j)||lst listed j):=by
 unfold lst;by_cases h:i=j
 ·subst h;simp [Array.getElem?_setIfInBounds_self_of_lt hi]
 ·rw [getD_set_ne false h];simp [h]
theorem DI.pending(h:DI P Fs w0 all ro nt a0 listed a w rest done log st ρ W)(hord:orderedB all pm=true)(hpm:pmOk all pm=true){i:Nat}{o:Oper}(hi:all[i]? =some o)(hnl:lst listed i=false)
  (hready: ∀e∈o.after,Region.binds .any e=true→lst listed e.on=true) (hiW:i∈W.map (·.1)) (Q:Exit→Act→World→Prop) (K:Act→World→Prop)
  (hK: ∀a',DI P Fs w0 all ro nt a0 (listed.setIfInBounds i true) a' w rest done log st ρ W→K a' w):wpOpIn (FW ro) 0 P all Q i K a w:=by
 obtain⟨x,hx,rfl⟩:=List.mem_map.1 hiW;obtain⟨W1,W2,hW⟩:=List.append_of_mem hx;obtain⟨o',rd,hp,ρ',h1,h2,h3,h4⟩:=h.pend W1 x W2 hW hnl;rw [hi]at h1;cases h1;have hnd:=h.nd;rw [hW]at hnd;simp only [List.map_append,List.map_cons]at hnd;rw [List.nodup_append]at hnd;obtain⟨hnd1,hnd2,hnd3⟩:=hnd;have hni:x.1 ∉ W1.map (·.1):=fun hc=>hnd3 _ hc _ List.mem_cons_self rfl
 have hni2:x.1 ∉ W2.map (·.1):=(List.nodup_cons.1 hnd2).1;have hil:x.1<listed.size:=by rw [h.lsz];exact(Array.getElem?_eq_some_iff.1 hi).1
 obtain⟨S,hS⟩:=h.hw.own;have hdst:x.2.1=o.dst:=by
  obtain⟨o2,ho2,hd2,_⟩:=h.clW W1 x W2 hW;rw [hi]at ho2;cases ho2;exact hd2
 refine h3 a w S K Q (fun s hs=>?_) ?_ ?_ ?_ (hK _ ?_)
 ·rw [h.act,hW];refine agree_slots (fun y hy hys=>h.before hord hpm hi hready hW hni (.inl hs) y hy hys) fun y hy hys=>?_
  rcases List.mem_cons.1 hy with rfl | hy
  ·exact hnl
  ·exact h.behind hord hpm hi hnl hW (.inl hs) y hy hys
 ·rw [h.act,puts_defers,puts_defers]
 ·rw [h.act,puts_size,←puts_size W];exact h.ha.size
 ·intro j hj ck hck;obtain⟨ck',hck',hden⟩:=h4 j hj ck hck;rw [←hden];exact Reads_of S hS rd j hj ck' hck'
 ·have hlst: ∀j,lst (listed.setIfInBounds x.1 true) j=(decide (x.1=j)||lst listed j):=fun j=>lst_set hil
  refine⟨h.hw,h.hnt,?_,h.ha,h.nd,h.done,h.rest,fun j hj=>?_,by simp [h.lsz],fun p op hop hp e he hb=>?_,h.clW,fun A y B hWy hny=>?_⟩
  ·have f1:W1.filter (fun y=>lst (listed.setIfInBounds x.1 true) y.1)=W1.filter (fun y=>lst listed y.1):=List.filter_congr fun y hy=>by
    have:x.1≠y.1:=fun e=>hni (by rw [e];exact List.mem_map.2 ⟨y,hy,rfl⟩)
    rw [hlst];simp [this]
   have f2:W2.filter (fun y=>lst (listed.setIfInBounds x.1 true) y.1)=W2.filter (fun y=>lst listed y.1):=List.filter_congr fun y hy=>by
    have:x.1≠y.1:=fun e=>hni2 (by rw [e];exact List.mem_map.2 ⟨y,hy,rfl⟩)
    rw [hlst];simp [this]
   rw [h.act,hW,List.filter_append,List.filter_append,f1,List.filter_cons_of_neg (by simp [hnl]),List.filter_cons_of_pos (by rw [hlst];simp),f2,puts_append,puts_append];have:x::W2.filter (fun y=>lst listed y.1)=[(x.1,x.2.1,x.2.2)]++W2.filter (fun y=>lst listed y.1):=rfl;rw [this,puts_append,puts_one,puts_comm,hdst];intro y hy s hs hys;obtain⟨hy1,hy2⟩:=List.mem_filter.1 hy;have:=h.behind hord hpm hi hnl hW (.inr (hdst▸hs)) y hy1 hys;rw [this]at hy2;cases hy2
  ·rw [hlst,Bool.or_eq_true]at hj;rcases hj with hj | hj
   ·rw [←of_decide_eq_true hj];exact hiW
   ·exact h.sub j hj
  ·rw [hlst,Bool.or_eq_true]at hp ⊢;rcases hp with hp | hp
   ·have:=of_decide_eq_true hp;subst this;rw [hi]at hop;cases hop;exact .inr (hready e he hb)
   ·exact .inr (h.clL p op hop hp e he hb)
  ·rw [hlst,Bool.or_eq_false_iff]at hny;exact h.pend A y B hWy hny.2
end
end Go.RX
