/- Executor. -/
import Derived.Test.YtllcdnkfbeokhaaGreatRxY
open Array renaming getD_eq_getD_getElem? → auQ, getElem?_eq_some_iff → auy
open Bool renaming and_eq_true → ai
open Go.Region renaming binds → au_
open List renaming all_eq_true → auo, map_cons → auK, mem_append → auE, mem_cons_of_mem → auw, mem_cons_self → aur, mem_filter → auR, mem_map → auL, mem_range → auG, mem_singleton → auz
open Nat renaming blt_eq → auF
namespace Go.RX
abbrev Wr:=Nat×Option Nat×Value
def nY(a:Act)(W:List Wr):Act:=W.foldl (fun a x=>a.put x.2.1 x.2.2) a
theorem kx(a:Act)(x y:List Wr):nY a (x++y)=nY (nY a x) y:=List.foldl_append ..
theorem vG(a:Act)(i:Nat)(d:Option Nat)(v:Value):nY a [(i,d,v)]=a.put d v:=rfl
theorem vH(a:Act)(d:Option Nat)(v:Value):(a.put d v).tmps.size=a.tmps.size:=by cases d<;>simp [Act.put]
theorem put_defers(a:Act)(d:Option Nat)(v:Value):(a.put d v).defers=a.defers:=by cases d<;>rfl
theorem pB: ∀(W:List Wr) (a:Act),(nY a W).tmps.size=a.tmps.size
 | [],_=>rfl
 | x::r,a=>by
  show(nY (a.put x.2.1 x.2.2) r).tmps.size=_;rw [pB r,vH]
theorem mc: ∀(W:List Wr) (a:Act),(nY a W).defers=a.defers
 | [],_=>rfl
 | x::r,a=>by
  show(nY (a.put x.2.1 x.2.2) r).defers=_;rw [mc r,put_defers]
theorem wZ(a:Act)(d:Option Nat)(v:Value)(s:Nat)(h:d≠some s):(a.put d v).tmps.getD s undef=a.tmps.getD s undef:=by
 cases d with
 | none=>rfl
 | some d=>
  have:d≠s:=fun e=>h (by rw [e])
  simp only [Act.put];rw [auQ,auQ,Array.getElem?_setIfInBounds_ne this]
theorem Ao(a:Act)(d:Nat)(v:Value)(h:d<a.tmps.size):(a.put (some d) v).tmps.getD d undef=v:=by
 simp only [Act.put];rw [auQ,Array.getElem?_setIfInBounds_self_of_lt h];rfl
theorem P_(a b:Act)(d:Option Nat)(v:Value)(s:Nat)(hs:a.tmps.size=b.tmps.size)(h:a.tmps.getD s undef=b.tmps.getD s undef):
  (a.put d v).tmps.getD s undef=(b.put d v).tmps.getD s undef:=by
 by_cases hd:d=some s
 ·subst hd;by_cases cF:s<a.tmps.size
  ·rw [Ao a s v cF,Ao b s v (by omega)]
  ·simp only [Act.put];rw [auQ,auQ,Array.getElem?_eq_none (by simpa using cF),Array.getElem?_eq_none (by simp;omega)]
 ·rw [wZ a d v s hd,wZ b d v s hd,h]
theorem sN(s:Nat): ∀(W:List Wr) (a b:Act),a.tmps.size=b.tmps.size→a.tmps.getD s undef=b.tmps.getD s undef→
  (nY a W).tmps.getD s undef=(nY b (W.filter fun x=>x.2.1==some s)).tmps.getD s undef
 | [],a,b,_,h=>h
 | x::r,a,b,hs,h=>by
  show(nY (a.put x.2.1 x.2.2) r).tmps.getD s undef=_;by_cases hx:x.2.1=some s
  ·rw [List.filter_cons_of_pos (by simpa using hx)];show _=(nY (b.put x.2.1 x.2.2) _).tmps.getD s undef;exact sN s r _ _ (by rw [vH,vH,hs]) (P_ a b _ _ s hs h)
  ·rw [List.filter_cons_of_neg (by simpa using hx)];exact sN s r _ _ (by rw [vH,hs]) (by rw [wZ a _ _ s hx,h])
theorem put_comm(a:Act){d d':Option Nat}(v v':Value)(h: ∀s,d=some s→d'≠some s):(a.put d v).put d' v'=(a.put d' v').put d v:=by
 cases d with
 | none=>rfl
 | some d=>
  cases d' with
  | none=>rfl
  | some d'=>
   have:d≠d':=fun e=>h d rfl (by rw [e])
   simp only [Act.put];rw [Array.setIfInBounds_comm _ _ this]
theorem CX(d:Option Nat)(v:Value): ∀(W:List Wr) (a:Act),(∀x∈W,∀s,d=some s→x.2.1≠some s)→nY (a.put d v) W=(nY a W).put d v
 | [],_,_=>rfl
 | x::r,a,h=>by
  show nY ((a.put d v).put x.2.1 x.2.2) r=(nY (a.put x.2.1 x.2.2) r).put d v;rw [put_comm a v x.2.2 (h x aur)];exact CX d v r _ fun y hy=>h y (auw _ hy)
section order
variable {all:Array Oper} {pm:List Nat}
theorem w6(h:Ap all pm=true){p:Nat}{o:Oper}(ho:all[p]? =some o):
  (∀e∈o.after,au_ .any e=true→e.on<p)∧
  ∀q,q<all.size→(pm.getD p 0).testBit q=true→∃e∈o.after,au_ .any e=true∧(q=e.on∨(pm.getD e.on 0).testBit q=true):=by
 have hp:p<all.size:=(auy.1 ho).1;have:=auo.1 h p (auG.2 hp);simp only [ho,ai]at this;refine⟨fun e he hb=>?_,fun q hq Qa=>?_⟩
 ·have h1:=auo.1 this.1 e (by simpa using he);simpa [hb,auF] using h1
 ·have h1:=auo.1 this.2 q (auG.2 hq);rw [Qa]at h1;simp only [Bool.not_true,Bool.false_or]at h1;obtain⟨e,he,h2⟩:=List.any_eq_true.1 h1;simp only [ai,Bool.or_eq_true,beq_iff_eq]at h2;exact⟨e,by simpa using he,h2.1,h2.2⟩
theorem CY(h:Ap all pm=true)(X:Nat→Prop)(hX: ∀p o,all[p]? =some o→X p→∀e∈o.after,au_ .any e=true→X e.on):
  ∀(p:Nat) (o:Oper),all[p]? =some o→X p→∀q,q<all.size→(pm.getD p 0).testBit q=true→X q:=by
 intro p
 induction p using Nat.strongRecOn with
 | _ p ih=>
  intro o ho hXp q hq Qa;obtain⟨h1,h2⟩:=w6 h ho;obtain⟨e,he,hb,yU⟩:=h2 q hq Qa;have hXe:=hX p o ho hXp e he hb;rcases yU with rfl | Qb
  ·exact hXe
  ·have cF:=h1 e he hb;have hp:p<all.size:=(auy.1 ho).1;have UN:all[e.on]? =some all[e.on]:=Array.getElem?_eq_getElem (by omega);exact ih e.on cF _ UN hXe q hq Qb
theorem vI(h:Ap all pm=true)(X:Nat→Prop)(hX: ∀p o,all[p]? =some o→X p→∀e∈o.after,au_ .any e=true→X e.on)
  {p:Nat} {o:Oper} (ho:all[p]? =some o) (hr: ∀e∈o.after,au_ .any e=true→X e.on) {q:Nat} (hq:q<all.size) (Qa:(pm.getD p 0).testBit q=true):X q:=by
 obtain⟨h1,h2⟩:=w6 h ho;obtain⟨e,he,hb,yU⟩:=h2 q hq Qa;have hXe:=hr e he hb;rcases yU with rfl | Qb
 ·exact hXe
 ·have cF:=h1 e he hb;have hp:p<all.size:=(auy.1 ho).1;have UN:all[e.on]? =some all[e.on]:=Array.getElem?_eq_getElem (by omega);exact CY h X hX e.on _ UN hXe q hq Qb
theorem tE(h:mf all pm=true){i j d:Nat}{oi oj:Oper}(hi:all[i]? =some oi)(hj:all[j]? =some oj)(hd:oi.dst=some d)
  (hs:d∈slotsOf all oj∨oj.dst=some d) (fy:i≠j):(pm.getD j 0).testBit i=true∨(pm.getD i 0).testBit j=true:=by
 have DV:i<all.size:=(auy.1 hi).1;have hjl:j<all.size:=(auy.1 hj).1;have h1:=auo.1 h i (auG.2 DV);simp only [hi,hd]at h1;have h2:=auo.1 h1 j (auG.2 hjl);simp only [hj,Bool.or_eq_true,beq_iff_eq,Bool.not_eq_true',Bool.or_eq_false_iff,beq_eq_false_iff_ne]at h2;rcases h2 with((h2 | h2) | h2) | h2
 ·exact absurd h2 fy
 ·rcases hs with hs | hs
  ·have:(slotsOf all oj).contains d=true:=by simpa using hs
   rw [this]at h2;cases h2.1
  ·exact absurd hs h2.2
 ·exact .inl h2
 ·exact .inr h2
end order
theorem w7{x:List (Nat×SV)}{f:Nat→Bool}{s:Nat}{v:SV}(h:look (x.filter fun y=>f y.1) s=some v):f s=true:=by
 induction x with
 | nil=>cases h
 | cons t r ih=>
  obtain⟨q,u⟩:=t;by_cases hf:f q=true
  ·rw [List.filter_cons_of_pos (by exact hf)]at h;unfold look at h;split at h
   ·rename_i hq;rw [beq_iff_eq]at hq;subst hq;exact hf
   ·exact ih h
  ·rw [List.filter_cons_of_neg (by exact hf)]at h;exact ih h
section
variable {P:Program} {C:Ctx} {al:Value→List HP→Prop} {Fs:List HP} {w0:World} {all:Array Oper} {pm:List Nat}
def ac5(P:Program)(all:Array Oper)(ro:Option Nat)(nt:NT)(i:Nat)(o:Oper)(v:Value)(base:Act)(hp:List Ck)(ρ:Env)(rd:List Nat):Prop:=
 ∀(a':Act) (w':World) (S:Nat→Nat→Prop) (K:Act→World→Prop) (Q:Exit→Act→World→Prop),(∀s∈slotsOf all o,a'.tmps.getD s undef=base.tmps.getD s undef)→a'.defers=base.defers→nt.n≤a'.tmps.size→
  Reads hp ρ w' S rd→K (a'.put o.dst v) w'→wpOpIn (FW ro) 0 P all Q i K a' w'
theorem yg{fr:List (Nat×SV)}{nt:NT}{ρ:Env}{base a':Act}{aX:List Nat}(h:HA fr nt ρ base)(hs: ∀s∈aX,a'.tmps.getD s undef=base.tmps.getD s undef)(hd:a'.defers=base.defers)(hn:nt.n≤a'.tmps.size):
  HA (restrict fr aX) nt ρ a':=by
 refine⟨hd.trans h.defers,hn,fun s v hl=>?_⟩;have h1:=nF (f:=fun q=>aX.contains q) hl;have h2:=w7 (f:=fun q=>aX.contains q) hl;rw [hs s (by simpa using h2),h.aX s v h1]
theorem IT(hT:bB P C.T=true){ro:Option Nat}{nt:NT}{i:Nat}{o:Oper}(hi:all[i]? =some o){st:St}{ρ:Env}{base:Act}{g:Option BE}{res:iC}
  (hg:sO all (restrict st.fr (slotsOf all o)) st.known o=some g) (hr:F7 C g {st with fr:=restrict st.fr (slotsOf all o)} o=some res) (he:res.iD= .none)
  (hk: ∀b∈st.known,b.prop ρ) (hl:iG ρ st.a_) (cd:oU ρ g=true→∀b∈res.vcs,b.prop ρ) (ha:HA st.fr nt ρ base):
  ac5 P all ro nt i o (if oU ρ g then res.val.val ρ else undef) base st.hp ρ res.rd:=by
 intro a' w' S K Q hs hd hn db hK;have w9:=yg ha hs hd hn;have nG:=lS w9 hk hg;unfold wpOpIn;simp only [hi];rw [nG];cases MR:oU ρ g with
 | false=>
  rw [if_neg (by simp)];rw [MR,if_neg (by simp)]at hK;exact⟨fun _ _=>trivial,hK⟩
 | true=>
  rw [if_pos rfl];rw [MR,if_pos rfl]at hK;have hr:qj C g {st with fr:=restrict st.fr (slotsOf all o)} o=some res:=by
   rcases Aq hr with⟨rfl,_⟩ | hr
   ·cases MR
   ·exact hr
  obtain⟨F8,MS⟩:=mQ hr;have ui:vm ρ (CZ g st.known (restrict st.fr (slotsOf all o))) a'.eval:=w9.w_ hk MR;have hD:=rO (P:=P) hT (Env.ok ρ) ui F8 db (cd MR) hl.b;unfold Did at hD;rw [he]at hD;exact ot (xe F8) (.inl hD) hK
abbrev lv(aQ:Array Bool)(i:Nat):Bool:=aQ.getD i false
structure DI (P:Program) (Fs:List HP) (w0:World) (all:Array Oper) (ro:Option Nat) (nt:NT) (a0:Act) (aQ:Array Bool) (a:Act) (w:World)
  (rest:List Nat) (done:Nat) (log:List (Nat×List Nat)) (st:St) (ρ:Env) (W:List Wr):Prop where
 hw:HW Fs w0 st ρ w
 O3:st.nt=nt
 act:a=nY a0 (W.filter fun x=>lv aQ x.1)
 ha:HA st.fr nt ρ (nY a0 W)
 nd:(W.map (·.1)).Nodup
 done: ∀i,done.testBit i=true↔i∈W.map (·.1)
 rest: ∀i,i∈rest↔i<all.size∧i ∉ W.map (·.1)
 sub: ∀i,lv aQ i=true→i∈W.map (·.1)
 UO:aQ.size=all.size
 clL: ∀p o,all[p]? =some o→lv aQ p=true→∀e∈o.after,au_ .any e=true→lv aQ e.on=true
 UP: ∀W1 x W2,W=W1++x::W2→∃o,all[x.1]? =some o∧x.2.1=o.dst∧∀e∈o.after,au_ .any e=true→e.on∈W1.map (·.1)
 UQ: ∀W1 x W2,W=W1++x::W2→lv aQ x.1=false→∃o rd hp bJ,all[x.1]? =some o∧(x.1,rd)∈log∧ac5 P all ro nt x.1 o x.2.2 (nY a0 W1) hp bJ rd∧
  ∀j∈rd,∀ck,hp[j]? =some ck→∃TQ,st.hp[j]? =some TQ∧TQ.den ρ=ck.den bJ
section e9
variable {ro:Option Nat} {nt:NT} {a0:Act} {aQ:Array Bool} {a:Act} {w:World} {rest:List Nat} {done:Nat} {log:List (Nat×List Nat)} {st:St} {ρ:Env} {W:List Wr}
theorem DI.XG(h:DI P Fs w0 all ro nt a0 aQ a w rest done log st ρ W){A B:List Wr}(hW:W=A++B):
  ∀p o,all[p]? =some o→p∈A.map (·.1)→∀e∈o.after,au_ .any e=true→e.on∈A.map (·.1):=by
 intro p o ho hp e he hb;obtain⟨y,hy,rfl⟩:=auL.1 hp;obtain⟨A1,A2,rfl⟩:=List.append_of_mem hy;obtain⟨o',Ii,_,Cm⟩:=h.UP A1 y (A2++B) (by rw [hW];simp);rw [ho]at Ii;cases Ii;have:=Cm e he hb;rw [List.map_append];exact List.mem_append_left _ this
theorem DI.before(h:DI P Fs w0 all ro nt a0 aQ a w rest done log st ρ W)(vJ:mf all pm=true)(C1:Ap all pm=true){i:Nat}{o:Oper}(hi:all[i]? =some o)
  (qk: ∀e∈o.after,au_ .any e=true→lv aQ e.on=true) {W1 tail:List Wr} (hW:W=W1++tail) (hni:i ∉ W1.map (·.1)) {s:Nat} (hs:s∈slotsOf all o∨o.dst=some s):
  ∀y∈W1,y.2.1=some s→lv aQ y.1=true:=by
 intro y hy KG;obtain⟨A,B,rfl⟩:=List.append_of_mem hy;obtain⟨oy,YQ,hdy,Cm⟩:=h.UP A y (B++tail) (by rw [hW];simp);have fy:y.1≠i:=fun e=>hni (by rw [←e];simp)
 have hyl:y.1<all.size:=(auy.1 YQ).1;have DV:i<all.size:=(auy.1 hi).1;rcases tE vJ YQ hi (hdy▸KG) hs fy with hb | hb
 ·exact vI C1 (fun q=>lv aQ q=true) h.clL hi qk hyl hb
 ·have:=vI C1 (fun q=>q∈A.map (·.1)) (h.XG (A:=A) (B:=y::(B++tail)) (by rw [hW];simp)) YQ Cm DV hb;exact absurd (by rw [List.map_append];exact List.mem_append_left _ this) hni
theorem DI.behind(h:DI P Fs w0 all ro nt a0 aQ a w rest done log st ρ W)(vJ:mf all pm=true)(C1:Ap all pm=true){W1 W2:List Wr}{x:Wr}{o:Oper}(hi:all[x.1]? =some o)
  (uP:lv aQ x.1=false) (hW:W=W1++x::W2) {s:Nat} (hs:s∈slotsOf all o∨o.dst=some s):
  ∀y∈W2,y.2.1=some s→lv aQ y.1=false:=by
 intro y hy KG;obtain⟨A,B,rfl⟩:=List.append_of_mem hy;obtain⟨oy,YQ,hdy,Cm⟩:=h.UP (W1++x::A) y B (by rw [hW];simp);obtain⟨ox,hox,_,ac8⟩:=h.UP W1 x (A++y::B) hW;rw [hi]at hox;cases hox;have iy:=h.nd;rw [hW]at iy;simp only [List.map_append,auK]at iy;rw [List.nodup_append]at iy;obtain⟨_,YR,YS⟩:=iy;have hyl:y.1<all.size:=(auy.1 YQ).1;have DV:x.1<all.size:=(auy.1 hi).1;have fy:y.1≠x.1:=fun e=>by
  have:=(List.nodup_cons.1 YR).1;exact this (by rw [←e];simp)
 rcases tE vJ YQ hi (hdy▸KG) hs fy with hb | hb
 ·have:=vI C1 (fun q=>q∈W1.map (·.1)) (h.XG (A:=W1) (B:=x::(A++y::B)) hW) hi ac8 hyl hb;exact absurd rfl (YS _ this _ (by simp))
 ·cases hl:lv aQ y.1 with
  | false=>rfl
  | true=>
   have:=CY C1 (fun q=>lv aQ q=true) h.clL y.1 oy YQ hl x.1 DV hb;rw [uP]at this;cases this
theorem yh{W1 tail:List Wr}{s:Nat}(h1: ∀y∈W1,y.2.1=some s→lv aQ y.1=true)(h2: ∀y∈tail,y.2.1=some s→lv aQ y.1=false):
  (nY a0 ((W1++tail).filter fun x=>lv aQ x.1)).tmps.getD s undef=(nY a0 W1).tmps.getD s undef:=by
 rw [sN s _ a0 a0 rfl rfl,sN s W1 a0 a0 rfl rfl];have e2:(tail.filter fun x=>lv aQ x.1).filter (fun x=>x.2.1==some s)=[]:=by
  rw [List.filter_filter,List.filter_eq_nil_iff];intro y hy hc;simp only [ai,beq_iff_eq]at hc;rw [h2 y hy hc.1]at hc;cases hc.2
 have e1:(W1.filter fun x=>lv aQ x.1).filter (fun x=>x.2.1==some s)=W1.filter (fun x=>x.2.1==some s):=by
  rw [List.filter_filter];refine List.filter_congr fun y hy=>?_
  by_cases KG:y.2.1=some s
  ·rw [h1 y hy KG,Bool.and_true]
  ·have:(y.2.1==some s)=false:=by simpa using KG
   rw [this,Bool.false_and]
 rw [List.filter_append,List.filter_append,e1,e2,List.append_nil]
end e9
end
theorem yi(done i j:Nat):(done|||(1 <<< i)).testBit j=(done.testBit j||decide (i=j)):=by
 rw [Nat.testBit_or,Nat.one_shiftLeft,Nat.testBit_two_pow]
theorem ql{α:Type}{W:List α}{x:α}{W1:List α}{y:α}{W2:List α}(h:W++[x]=W1++y::W2):(W2=[]∧y=x∧W1=W)∨∃MT,W2=MT++[x]∧W=W1++y::MT:=by
 rcases List.eq_nil_or_concat W2 with rfl | ⟨MT,z,rfl⟩
 ·left;have:=List.append_inj' h rfl;exact⟨rfl,by simpa using this.2.symm,this.1.symm⟩
 ·right;have h':W++[x]=(W1++y::MT)++[z]:=by rw [h];simp [List.concat_eq_append]
  have:=List.append_inj' h' rfl;have hz:x=z:=by simpa using this.2
  subst hz;exact⟨MT,by simp [List.concat_eq_append],this.1⟩
theorem F9{all:Array Oper}{done i:Nat}(h:nH all done i=true): ∃o,all[i]? =some o∧∀e∈o.after,au_ .any e=true→done.testBit e.on=true:=by
 unfold nH at h;split at h
 ·rename_i o ho;refine⟨o,ho,fun e he hb=>?_⟩;have:=auo.1 h e (by simpa using he);simpa [hb] using this
 ·cases h
theorem MU{all:Array Oper}{done i:Nat}{o:Oper}(ho:all[i]? =some o)(h: ∀e∈o.after,au_ .any e=true→done.testBit e.on=true):nH all done i=true:=by
 unfold nH;simp only [ho];refine auo.2 fun e he=>?_
 cases hb:au_ .any e with
 | false=>rfl
 | true=>rw [h e (by simpa using he) hb];rfl
section
variable {P:Program} {C:Ctx} {al:Value→List HP→Prop} {Fs:List HP} {w0:World} {all:Array Oper} {pm:List Nat}
variable {ro:Option Nat} {nt:NT} {a0:Act} {aQ:Array Bool} {a:Act} {w:World} {rest:List Nat} {done:Nat} {log:List (Nat×List Nat)} {st:St} {ρ:Env} {W:List Wr}
theorem DI.quiet(hT:bB P C.T=true)(h:DI P Fs w0 all ro nt a0 aQ a w rest done log st ρ W){i:Nat}{o:Oper}(YT:i∈rest)(db:nH all done i=true)(hi:all[i]? =some o)(yX:rP st o.dst=true)
  {g:Option BE} {res:iC} (hg:sO all (restrict st.fr (slotsOf all o)) st.known o=some g) (hgs:gsc st.a_ g=true)
  (hr:F7 C g {st with fr:=restrict st.fr (slotsOf all o)} o=some res) (he:res.iD= .none) (cd:oU ρ g=true→∀b∈res.vcs,b.prop ρ):
  DI P Fs w0 all ro nt a0 aQ a w (rest.filter fun j=>j != i) (done|||(1 <<< i)) ((i,res.rd)::log)
   (({st with known:=DW g res.vcs st.known}:St).put o.dst (MV g res.val)) ρ
   (W++[(i,o.dst,if oU ρ g then res.val.val ρ else undef)]):=by
 have MS:res.sc st.a_=true:=by
  rcases Aq hr with⟨_,rfl⟩ | hr
  ·rfl
  ·exact(mQ hr).2
 have XH:=MS;simp only [iC.sc,ai,he,Ar.grow]at XH;obtain⟨⟨kZ,yY⟩,_⟩:=XH;have XI:i ∉ W.map (·.1):=((h.rest i).1 YT).2;have uP:lv aQ i=false:=by
  cases hl:lv aQ i with
  | false=>rfl
  | true=>exact absurd (h.sub i hl) XI
 have hv:(if oU ρ g=true then res.val.val ρ else undef)=(MV g res.val).val ρ:=by
  cases g with
  | none=>rfl
  | some c=>rfl
 have jM:(MV g res.val).sc st.a_=true:=by
  cases g with
  | none=>exact kZ
  | some c=>simp only [MV,SV.sc,ai];exact⟨hgs,kZ⟩
 have zp:HW Fs w0 ({st with known:=DW g res.vcs st.known}:St) ρ w:=by
  cases g with
  | some c=>exact h.hw
  | none=>
   refine⟨h.hw.lens,h.hw.mj,h.hw.gP,?_,fun b hb=>?_,h.hw.own,h.hw.same,h.hw.ng⟩
   ·show(more res.vcs st.known).all (BE.sc st.a_)=true;unfold more;rw [List.all_append,h.hw.o9,Bool.and_true];exact auo.2 fun x hx=>auo.1 yY x (auR.1 hx).1
   ·exact(auE.1 hb).elim (fun hm=>cd rfl b (auR.1 hm).1) (h.hw.kn b)
 have e:=fb ({st with known:=DW g res.vcs st.known}:St) o.dst (MV g res.val);refine⟨zp.put jM,by rw [e.2.2.2.1];exact h.O3,?_,?_,?_,?_,?_,?_,h.UO,h.clL,?_,?_⟩
 ·rw [List.filter_append,List.filter_cons_of_neg (by simp [uP]),List.filter_nil,List.append_nil];exact h.act
 ·rw [kx,vG];refine HA.put h.ha (fun x hx=>?_) hv _ rfl;rw [←h.O3];exact vK yX x hx
 ·rw [List.map_append,List.nodup_append];exact⟨h.nd,by simp,fun x hx y hy=>by
   simp only [auK,List.map_nil,auz]at hy;subst hy;intro hxy;subst hxy;exact XI hx⟩
 ·intro j;rw [yi,Bool.or_eq_true,h.done,List.map_append,auE];simp only [decide_eq_true_eq,auK,List.map_nil,auz];exact⟨fun hj=>hj.imp id Eq.symm,fun hj=>hj.imp id Eq.symm⟩
 ·intro j;rw [auR,h.rest,List.map_append,auE];simp only [bne_iff_ne,ne_eq,auK,List.map_nil,auz,not_or,and_assoc]
 ·intro j hj;rw [List.map_append];exact List.mem_append_left _ (h.sub j hj)
 ·intro W1 x W2 hW;rcases ql hW with⟨rfl,rfl,rfl⟩ | ⟨MT,rfl,UR⟩
  ·obtain⟨o',Ii,Cm⟩:=F9 db;rw [hi]at Ii;cases Ii;exact⟨o,hi,rfl,fun e he hb=>(h.done _).1 (Cm e he hb)⟩
  ·exact h.UP W1 x MT UR
 ·intro W1 x W2 hW IU;rcases ql hW with⟨rfl,rfl,rfl⟩ | ⟨MT,rfl,UR⟩
  ·refine⟨o,res.rd,st.hp,ρ,hi,aur,?_,fun j _ ck F5=>⟨ck,by rw [e.1];exact F5,rfl⟩⟩;exact IT hT hi hg hr he h.hw.kn h.hw.lens cd (h.ha)
  ·obtain⟨o',rd,hp,bJ,h1,h2,h3,h4⟩:=h.UQ W1 x MT UR IU;exact⟨o',rd,hp,bJ,h1,auw _ h2,h3,by rw [e.1];exact h4⟩
theorem zq{aQ:Array Bool}{i j:Nat}(hi:i<aQ.size):lv (aQ.setIfInBounds i true) j=(decide (i=j)||lv aQ j):=by
 unfold lv;by_cases h:i=j
 ·subst h;simp [Array.getElem?_setIfInBounds_self_of_lt hi]
 ·rw [getD_set_ne false h];simp [h]
theorem DI.pending(h:DI P Fs w0 all ro nt a0 aQ a w rest done log st ρ W)(vJ:mf all pm=true)(C1:Ap all pm=true){i:Nat}{o:Oper}(hi:all[i]? =some o)(uP:lv aQ i=false)
  (qk: ∀e∈o.after,au_ .any e=true→lv aQ e.on=true) (XI:i∈W.map (·.1)) (Q:Exit→Act→World→Prop) (K:Act→World→Prop)
  (hK: ∀a',DI P Fs w0 all ro nt a0 (aQ.setIfInBounds i true) a' w rest done log st ρ W→K a' w):wpOpIn (FW ro) 0 P all Q i K a w:=by
 obtain⟨x,hx,rfl⟩:=auL.1 XI;obtain⟨W1,W2,hW⟩:=List.append_of_mem hx;obtain⟨o',rd,hp,bJ,h1,h2,h3,h4⟩:=h.UQ W1 x W2 hW uP;rw [hi]at h1;cases h1;have iy:=h.nd;rw [hW]at iy;simp only [List.map_append,auK]at iy;rw [List.nodup_append]at iy;obtain⟨aoo,YR,YS⟩:=iy;have hni:x.1 ∉ W1.map (·.1):=fun hc=>YS _ hc _ aur rfl
 have ahw:x.1 ∉ W2.map (·.1):=(List.nodup_cons.1 YR).1;have DV:x.1<aQ.size:=by rw [h.UO];exact(auy.1 hi).1
 obtain⟨S,hS⟩:=h.hw.own;have yX:x.2.1=o.dst:=by
  obtain⟨o2,MW,hd2,_⟩:=h.UP W1 x W2 hW;rw [hi]at MW;cases MW;exact hd2
 refine h3 a w S K Q (fun s hs=>?_) ?_ ?_ ?_ (hK _ ?_)
 ·rw [h.act,hW];refine yh (fun y hy KG=>h.before vJ C1 hi qk hW hni (.inl hs) y hy KG) fun y hy KG=>?_
  rcases List.mem_cons.1 hy with rfl | hy
  ·exact uP
  ·exact h.behind vJ C1 hi uP hW (.inl hs) y hy KG
 ·rw [h.act,mc,mc]
 ·rw [h.act,pB,←pB W];exact h.ha.size
 ·intro j hj ck F5;obtain⟨TQ,MP,As⟩:=h4 j hj ck F5;rw [←As];exact Au S hS rd j hj TQ MP
 ·have xf: ∀j,lv (aQ.setIfInBounds x.1 true) j=(decide (x.1=j)||lv aQ j):=fun j=>zq DV
  refine⟨h.hw,h.O3,?_,h.ha,h.nd,h.done,h.rest,fun j hj=>?_,by simp [h.UO],fun p op C4 hp e he hb=>?_,h.UP,fun A y B hWy hny=>?_⟩
  ·have f1:W1.filter (fun y=>lv (aQ.setIfInBounds x.1 true) y.1)=W1.filter (fun y=>lv aQ y.1):=List.filter_congr fun y hy=>by
    have:x.1≠y.1:=fun e=>hni (by rw [e];exact auL.2 ⟨y,hy,rfl⟩)
    rw [xf];simp [this]
   have f2:W2.filter (fun y=>lv (aQ.setIfInBounds x.1 true) y.1)=W2.filter (fun y=>lv aQ y.1):=List.filter_congr fun y hy=>by
    have:x.1≠y.1:=fun e=>ahw (by rw [e];exact auL.2 ⟨y,hy,rfl⟩)
    rw [xf];simp [this]
   rw [h.act,hW,List.filter_append,List.filter_append,f1,List.filter_cons_of_neg (by simp [uP]),List.filter_cons_of_pos (by rw [xf];simp),f2,kx,kx];have:x::W2.filter (fun y=>lv aQ y.1)=[(x.1,x.2.1,x.2.2)]++W2.filter (fun y=>lv aQ y.1):=rfl;rw [this,kx,vG,CX,yX];intro y hy s hs KG;obtain⟨Uy,XE⟩:=auR.1 hy;have:=h.behind vJ C1 hi uP hW (.inr (yX▸hs)) y Uy KG;rw [this]at XE;cases XE
  ·rw [xf,Bool.or_eq_true]at hj;rcases hj with hj | hj
   ·rw [←of_decide_eq_true hj];exact XI
   ·exact h.sub j hj
  ·rw [xf,Bool.or_eq_true]at hp ⊢;rcases hp with hp | hp
   ·have:=of_decide_eq_true hp;subst this;rw [hi]at C4;cases C4;exact .inr (qk e he hb)
   ·exact .inr (h.clL p op C4 hp e he hb)
  ·rw [xf,Bool.or_eq_false_iff]at hny;exact h.UQ A y B hWy hny.2
end
end Go.RX
