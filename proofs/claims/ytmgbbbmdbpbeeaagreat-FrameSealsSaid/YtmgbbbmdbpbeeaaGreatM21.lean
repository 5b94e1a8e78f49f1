/- Executor. -/
import Derived.Test.YtmgbbbmdbpbeeaaGreatRxY
open Array renaming getD_eq_getD_getElem? → afi, getElem?_eq_some_iff → ae5
open Bool renaming and_eq_true → ai
open Go.Region renaming binds → afJ
open List renaming all_eq_true → aeT, map_cons → afj, mem_cons → afd, mem_cons_of_mem → ae4, mem_cons_self → aeZ, mem_filter → afk, mem_range → afg, mem_singleton → afC
open Nat renaming blt_eq → afb
namespace Go.RX
abbrev Wr:=Nat×Option Nat×Value
def lJ(a:Act)(W:List Wr):Act:=W.foldl (fun a x=>a.put x.2.1 x.2.2) a
theorem iO(a:Act)(x y:List Wr):lJ a (x++y)=lJ (lJ a x) y:=List.foldl_append ..
theorem sK(a:Act)(i:Nat)(d:Option Nat)(v:Value):lJ a [(i,d,v)]=a.put d v:=rfl
theorem sL(a:Act)(d:Option Nat)(v:Value):(a.put d v).tmps.size=a.tmps.size:=by cases d<;>simp [Act.put]
theorem put_defers(a:Act)(d:Option Nat)(v:Value):(a.put d v).defers=a.defers:=by cases d<;>rfl
theorem nh: ∀(W:List Wr) (a:Act),(lJ a W).tmps.size=a.tmps.size
 | [],_=>rfl
 | x::r,a=>by
  show(lJ (a.put x.2.1 x.2.2) r).tmps.size=_;rw [nh r,sL]
theorem jZ: ∀(W:List Wr) (a:Act),(lJ a W).defers=a.defers
 | [],_=>rfl
 | x::r,a=>by
  show(lJ (a.put x.2.1 x.2.2) r).defers=_;rw [jZ r,put_defers]
theorem tZ(a:Act)(d:Option Nat)(v:Value)(s:Nat)(h:d≠some s):(a.put d v).tmps.getD s undef=a.tmps.getD s undef:=by
 cases d with
 | none=>rfl
 | some d=>
  have:d≠s:=fun e=>h (by rw [e])
  simp only [Act.put];rw [afi,afi,Array.getElem?_setIfInBounds_ne this]
theorem xT(a:Act)(d:Nat)(v:Value)(h:d<a.tmps.size):(a.put (some d) v).tmps.getD d undef=v:=by
 simp only [Act.put];rw [afi,Array.getElem?_setIfInBounds_self_of_lt h];rfl
theorem Mw(a b:Act)(d:Option Nat)(v:Value)(s:Nat)(hs:a.tmps.size=b.tmps.size)(h:a.tmps.getD s undef=b.tmps.getD s undef):
  (a.put d v).tmps.getD s undef=(b.put d v).tmps.getD s undef:=by
 by_cases hd:d=some s
 ·subst hd;by_cases bU:s<a.tmps.size
  ·rw [xT a s v bU,xT b s v (by omega)]
  ·simp only [Act.put];rw [afi,afi,Array.getElem?_eq_none (by simpa using bU),Array.getElem?_eq_none (by simp;omega)]
 ·rw [tZ a d v s hd,tZ b d v s hd,h]
theorem qc(s:Nat): ∀(W:List Wr) (a b:Act),a.tmps.size=b.tmps.size→a.tmps.getD s undef=b.tmps.getD s undef→
  (lJ a W).tmps.getD s undef=(lJ b (W.filter fun x=>x.2.1==some s)).tmps.getD s undef
 | [],a,b,_,h=>h
 | x::r,a,b,hs,h=>by
  show(lJ (a.put x.2.1 x.2.2) r).tmps.getD s undef=_;by_cases hx:x.2.1=some s
  ·rw [List.filter_cons_of_pos (by simpa using hx)];show _=(lJ (b.put x.2.1 x.2.2) _).tmps.getD s undef;exact qc s r _ _ (by rw [sL,sL,hs]) (Mw a b _ _ s hs h)
  ·rw [List.filter_cons_of_neg (by simpa using hx)];exact qc s r _ _ (by rw [sL,hs]) (by rw [tZ a _ _ s hx,h])
theorem put_comm(a:Act){d d':Option Nat}(v v':Value)(h: ∀s,d=some s→d'≠some s):(a.put d v).put d' v'=(a.put d' v').put d v:=by
 cases d with
 | none=>rfl
 | some d=>
  cases d' with
  | none=>rfl
  | some d'=>
   have:d≠d':=fun e=>h d rfl (by rw [e])
   simp only [Act.put];rw [Array.setIfInBounds_comm _ _ this]
theorem As(d:Option Nat)(v:Value): ∀(W:List Wr) (a:Act),(∀x∈W,∀s,d=some s→x.2.1≠some s)→lJ (a.put d v) W=(lJ a W).put d v
 | [],_,_=>rfl
 | x::r,a,h=>by
  show lJ ((a.put d v).put x.2.1 x.2.2) r=(lJ (a.put x.2.1 x.2.2) r).put d v;rw [put_comm a v x.2.2 (h x aeZ)];exact As d v r _ fun y hy=>h y (ae4 _ hy)
section order
variable {all:Array Oper} {pm:List Nat}
theorem t_(h:xU all pm=true){p:Nat}{o:Oper}(ho:all[p]? =some o):
  (∀e∈o.after,afJ .any e=true→e.on<p)∧
  ∀q,q<all.size→(pm.getD p 0).testBit q=true→∃e∈o.after,afJ .any e=true∧(q=e.on∨(pm.getD e.on 0).testBit q=true):=by
 have hp:p<all.size:=(ae5.1 ho).1;have:=aeT.1 h p (afg.2 hp);simp only [ho,ai]at this;refine⟨fun e he hb=>?_,fun q hq Mx=>?_⟩
 ·have h1:=aeT.1 this.1 e (by simpa using he);simpa [hb,afb] using h1
 ·have h1:=aeT.1 this.2 q (afg.2 hq);rw [Mx]at h1;simp only [Bool.not_true,Bool.false_or]at h1;obtain⟨e,he,h2⟩:=List.any_eq_true.1 h1;simp only [ai,Bool.or_eq_true,beq_iff_eq]at h2;exact⟨e,by simpa using he,h2.1,h2.2⟩
theorem Au(h:xU all pm=true)(X:Nat→Prop)(hX: ∀p o,all[p]? =some o→X p→∀e∈o.after,afJ .any e=true→X e.on):
  ∀(p:Nat) (o:Oper),all[p]? =some o→X p→∀q,q<all.size→(pm.getD p 0).testBit q=true→X q:=by
 intro p
 induction p using Nat.strongRecOn with
 | _ p ih=>
  intro o ho hXp q hq Mx;obtain⟨h1,h2⟩:=t_ h ho;obtain⟨e,he,hb,nD⟩:=h2 q hq Mx;have VM:=hX p o ho hXp e he hb;rcases nD with rfl | My
  ·exact VM
  ·have bU:=h1 e he hb;have hp:p<all.size:=(ae5.1 ho).1;have YR:all[e.on]? =some all[e.on]:=Array.getElem?_eq_getElem (by omega);exact ih e.on bU _ YR VM q hq My
theorem sM(h:xU all pm=true)(X:Nat→Prop)(hX: ∀p o,all[p]? =some o→X p→∀e∈o.after,afJ .any e=true→X e.on)
  {p:Nat} {o:Oper} (ho:all[p]? =some o) (hr: ∀e∈o.after,afJ .any e=true→X e.on) {q:Nat} (hq:q<all.size) (Mx:(pm.getD p 0).testBit q=true):X q:=by
 obtain⟨h1,h2⟩:=t_ h ho;obtain⟨e,he,hb,nD⟩:=h2 q hq Mx;have VM:=hr e he hb;rcases nD with rfl | My
 ·exact VM
 ·have bU:=h1 e he hb;have hp:p<all.size:=(ae5.1 ho).1;have YR:all[e.on]? =some all[e.on]:=Array.getElem?_eq_getElem (by omega);exact Au h X hX e.on _ YR VM q hq My
theorem qN(h:j4 all pm=true){i j d:Nat}{oi oj:Oper}(hi:all[i]? =some oi)(hj:all[j]? =some oj)(hd:oi.dst=some d)
  (hs:d∈slotsOf all oj∨oj.dst=some d) (eZ:i≠j):(pm.getD j 0).testBit i=true∨(pm.getD i 0).testBit j=true:=by
 have By:i<all.size:=(ae5.1 hi).1;have UI:j<all.size:=(ae5.1 hj).1;have h1:=aeT.1 h i (afg.2 By);simp only [hi,hd]at h1;have h2:=aeT.1 h1 j (afg.2 UI);simp only [hj,Bool.or_eq_true,beq_iff_eq,Bool.not_eq_true',Bool.or_eq_false_iff,beq_eq_false_iff_ne]at h2;rcases h2 with((h2 | h2) | h2) | h2
 ·exact absurd h2 eZ
 ·rcases hs with hs | hs
  ·have:(slotsOf all oj).contains d=true:=by simpa using hs
   rw [this]at h2;cases h2.1
  ·exact absurd hs h2.2
 ·exact .inl h2
 ·exact .inr h2
end order
theorem ua{x:List (Nat×SV)}{f:Nat→Bool}{s:Nat}{v:SV}(h:look (x.filter fun y=>f y.1) s=some v):f s=true:=by
 induction x with
 | nil=>cases h
 | cons t r ih=>
  obtain⟨q,u⟩:=t;by_cases hf:f q=true
  ·rw [List.filter_cons_of_pos (by exact hf)]at h;unfold look at h;split at h
   ·rename_i hq;rw [beq_iff_eq]at hq;subst hq;exact hf
   ·exact ih h
  ·rw [List.filter_cons_of_neg (by exact hf)]at h;exact ih h
section
variable {P:Program} {C:Ctx} {ar:Value→List HP→Prop} {Fs:List HP} {w0:World} {all:Array Oper} {pm:List Nat}
def VN(P:Program)(all:Array Oper)(ro:Option Nat)(nt:NT)(i:Nat)(o:Oper)(v:Value)(base:Act)(hp:List Ck)(ρ:Env)(rd:List Nat):Prop:=
 ∀(a':Act) (w':World) (S:Nat→Nat→Prop) (K:Act→World→Prop) (Q:Exit→Act→World→Prop),(∀s∈slotsOf all o,a'.tmps.getD s undef=base.tmps.getD s undef)→a'.defers=base.defers→nt.n≤a'.tmps.size→
  Reads hp ρ w' S rd→K (a'.put o.dst v) w'→wpOpIn (FW ro) 0 P all Q i K a' w'
theorem uZ{fr:List (Nat×SV)}{nt:NT}{ρ:Env}{base a':Act}{aT:List Nat}(h:HA fr nt ρ base)(hs: ∀s∈aT,a'.tmps.getD s undef=base.tmps.getD s undef)(hd:a'.defers=base.defers)(hn:nt.n≤a'.tmps.size):
  HA (restrict fr aT) nt ρ a':=by
 refine⟨hd.trans h.defers,hn,fun s v hl=>?_⟩;have h1:=lx (f:=fun q=>aT.contains q) hl;have h2:=ua (f:=fun q=>aT.contains q) hl;rw [hs s (by simpa using h2),h.aT s v h1]
theorem Gf(hT:bG P C.T=true){ro:Option Nat}{nt:NT}{i:Nat}{o:Oper}(hi:all[i]? =some o){st:St}{ρ:Env}{base:Act}{g:Option BE}{res:hZ}
  (hg:qd all (restrict st.fr (slotsOf all o)) st.known o=some g) (hr:D1 C g {st with fr:=restrict st.fr (slotsOf all o)} o=some res) (he:res.hO= .none)
  (hk: ∀b∈st.known,b.prop ρ) (hl:fJ ρ st.bd) (bY:mC ρ g=true→∀b∈res.vcs,b.prop ρ) (ha:HA st.fr nt ρ base):
  VN P all ro nt i o (if mC ρ g then res.val.val ρ else undef) base st.hp ρ res.rd:=by
 intro a' w' S K Q hs hd hn cV hK;have ub:=uZ ha hs hd hn;have lz:=jK ub hk hg;unfold wpOpIn;simp only [hi];rw [lz];cases J4:mC ρ g with
 | false=>
  rw [if_neg (by simp)];rw [J4,if_neg (by simp)]at hK;exact⟨fun _ _=>trivial,hK⟩
 | true=>
  rw [if_pos rfl];rw [J4,if_pos rfl]at hK;have hr:nZ C g {st with fr:=restrict st.fr (slotsOf all o)} o=some res:=by
   rcases xV hr with⟨rfl,_⟩ | hr
   ·cases J4
   ·exact hr
  obtain⟨D2,J5⟩:=kI hr;have sx:so ρ (Av g st.known (restrict st.fr (slotsOf all o))) a'.eval:=ub.uc hk J4;have hD:=pA (P:=P) hT (Env.ok ρ) sx D2 cV (bY J4) hl.b;unfold Did at hD;rw [he]at hD;exact lV (ud D2) (.inl hD) hK
abbrev jr(aV:Array Bool)(i:Nat):Bool:=aV.getD i false
structure DI (P:Program) (Fs:List HP) (w0:World) (all:Array Oper) (ro:Option Nat) (nt:NT) (a0:Act) (aV:Array Bool) (a:Act) (w:World)
  (rest:List Nat) (done:Nat) (log:List (Nat×List Nat)) (st:St) (ρ:Env) (W:List Wr):Prop where
 hw:HW Fs w0 st ρ w
 FD:st.nt=nt
 act:a=lJ a0 (W.filter fun x=>jr aV x.1)
 ha:HA st.fr nt ρ (lJ a0 W)
 nd:(W.map (·.1)).Nodup
 done: ∀i,done.testBit i=true↔i∈W.map (·.1)
 rest: ∀i,i∈rest↔i<all.size∧i ∉ W.map (·.1)
 sub: ∀i,jr aV i=true→i∈W.map (·.1)
 P_:aV.size=all.size
 UJ: ∀p o,all[p]? =some o→jr aV p=true→∀e∈o.after,afJ .any e=true→jr aV e.on=true
 Qa: ∀W1 x W2,W=W1++x::W2→∃o,all[x.1]? =some o∧x.2.1=o.dst∧∀e∈o.after,afJ .any e=true→e.on∈W1.map (·.1)
 Qb: ∀W1 x W2,W=W1++x::W2→jr aV x.1=false→∃o rd hp bI,all[x.1]? =some o∧(x.1,rd)∈log∧VN P all ro nt x.1 o x.2.2 (lJ a0 W1) hp bI rd∧
  ∀j∈rd,∀ck,hp[j]? =some ck→∃P8,st.hp[j]? =some P8∧P8.den ρ=ck.den bI
section agree
variable {ro:Option Nat} {nt:NT} {a0:Act} {aV:Array Bool} {a:Act} {w:World} {rest:List Nat} {done:Nat} {log:List (Nat×List Nat)} {st:St} {ρ:Env} {W:List Wr}
theorem DI.RV(h:DI P Fs w0 all ro nt a0 aV a w rest done log st ρ W){A B:List Wr}(hW:W=A++B):
  ∀p o,all[p]? =some o→p∈A.map (·.1)→∀e∈o.after,afJ .any e=true→e.on∈A.map (·.1):=by
 intro p o ho hp e he hb;obtain⟨y,hy,rfl⟩:=List.mem_map.1 hp;obtain⟨A1,A2,rfl⟩:=List.append_of_mem hy;obtain⟨o',H4,_,zp⟩:=h.Qa A1 y (A2++B) (by rw [hW];simp);rw [ho]at H4;cases H4;have:=zp e he hb;rw [List.map_append];exact List.mem_append_left _ this
theorem DI.before(h:DI P Fs w0 all ro nt a0 aV a w rest done log st ρ W)(sN:j4 all pm=true)(Aw:xU all pm=true){i:Nat}{o:Oper}(hi:all[i]? =some o)
  (n8: ∀e∈o.after,afJ .any e=true→jr aV e.on=true) {W1 tail:List Wr} (hW:W=W1++tail) (VO:i ∉ W1.map (·.1)) {s:Nat} (hs:s∈slotsOf all o∨o.dst=some s):
  ∀y∈W1,y.2.1=some s→jr aV y.1=true:=by
 intro y hy H5;obtain⟨A,B,rfl⟩:=List.append_of_mem hy;obtain⟨oy,Tn,YS,zp⟩:=h.Qa A y (B++tail) (by rw [hW];simp);have eZ:y.1≠i:=fun e=>VO (by rw [←e];simp)
 have UK:y.1<all.size:=(ae5.1 Tn).1;have By:i<all.size:=(ae5.1 hi).1;rcases qN sN Tn hi (YS▸H5) hs eZ with hb | hb
 ·exact sM Aw (fun q=>jr aV q=true) h.UJ hi n8 UK hb
 ·have:=sM Aw (fun q=>q∈A.map (·.1)) (h.RV (A:=A) (B:=y::(B++tail)) (by rw [hW];simp)) Tn zp By hb;exact absurd (by rw [List.map_append];exact List.mem_append_left _ this) VO
theorem DI.behind(h:DI P Fs w0 all ro nt a0 aV a w rest done log st ρ W)(sN:j4 all pm=true)(Aw:xU all pm=true){W1 W2:List Wr}{x:Wr}{o:Oper}(hi:all[x.1]? =some o)
  (rS:jr aV x.1=false) (hW:W=W1++x::W2) {s:Nat} (hs:s∈slotsOf all o∨o.dst=some s):
  ∀y∈W2,y.2.1=some s→jr aV y.1=false:=by
 intro y hy H5;obtain⟨A,B,rfl⟩:=List.append_of_mem hy;obtain⟨oy,Tn,YS,zp⟩:=h.Qa (W1++x::A) y B (by rw [hW];simp);obtain⟨ox,hox,_,VP⟩:=h.Qa W1 x (A++y::B) hW;rw [hi]at hox;cases hox;have gn:=h.nd;rw [hW]at gn;simp only [List.map_append,afj]at gn;rw [List.nodup_append]at gn;obtain⟨_,Tp,Tq⟩:=gn;have UK:y.1<all.size:=(ae5.1 Tn).1;have By:x.1<all.size:=(ae5.1 hi).1;have eZ:y.1≠x.1:=fun e=>by
  have:=(List.nodup_cons.1 Tp).1;exact this (by rw [←e];simp)
 rcases qN sN Tn hi (YS▸H5) hs eZ with hb | hb
 ·have:=sM Aw (fun q=>q∈W1.map (·.1)) (h.RV (A:=W1) (B:=x::(A++y::B)) hW) hi VP UK hb;exact absurd rfl (Tq _ this _ (by simp))
 ·cases hl:jr aV y.1 with
  | false=>rfl
  | true=>
   have:=Au Aw (fun q=>jr aV q=true) h.UJ y.1 oy Tn hl x.1 By hb;rw [rS]at this;cases this
theorem u7{W1 tail:List Wr}{s:Nat}(h1: ∀y∈W1,y.2.1=some s→jr aV y.1=true)(h2: ∀y∈tail,y.2.1=some s→jr aV y.1=false):
  (lJ a0 ((W1++tail).filter fun x=>jr aV x.1)).tmps.getD s undef=(lJ a0 W1).tmps.getD s undef:=by
 rw [qc s _ a0 a0 rfl rfl,qc s W1 a0 a0 rfl rfl];have e2:(tail.filter fun x=>jr aV x.1).filter (fun x=>x.2.1==some s)=[]:=by
  rw [List.filter_filter,List.filter_eq_nil_iff];intro y hy hc;simp only [ai,beq_iff_eq]at hc;rw [h2 y hy hc.1]at hc;cases hc.2
 have e1:(W1.filter fun x=>jr aV x.1).filter (fun x=>x.2.1==some s)=W1.filter (fun x=>x.2.1==some s):=by
  rw [List.filter_filter];refine List.filter_congr fun y hy=>?_
  by_cases H5:y.2.1=some s
  ·rw [h1 y hy H5,Bool.and_true]
  ·have:(y.2.1==some s)=false:=by simpa using H5
   rw [this,Bool.false_and]
 rw [List.filter_append,List.filter_append,e1,e2,List.append_nil]
end agree
end
theorem u_(done i j:Nat):(done|||(1 <<< i)).testBit j=(done.testBit j||decide (i=j)):=by
 rw [Nat.testBit_or,Nat.one_shiftLeft,Nat.testBit_two_pow]
theorem n9{α:Type}{W:List α}{x:α}{W1:List α}{y:α}{W2:List α}(h:W++[x]=W1++y::W2):(W2=[]∧y=x∧W1=W)∨∃J6,W2=J6++[x]∧W=W1++y::J6:=by
 rcases List.eq_nil_or_concat W2 with rfl | ⟨J6,z,rfl⟩
 ·left;have:=List.append_inj' h rfl;exact⟨rfl,by simpa using this.2.symm,this.1.symm⟩
 ·right;have h':W++[x]=(W1++y::J6)++[z]:=by rw [h];simp [List.concat_eq_append]
  have:=List.append_inj' h' rfl;have hz:x=z:=by simpa using this.2
  subst hz;exact⟨J6,by simp [List.concat_eq_append],this.1⟩
theorem D3{all:Array Oper}{done i:Nat}(h:lA all done i=true): ∃o,all[i]? =some o∧∀e∈o.after,afJ .any e=true→done.testBit e.on=true:=by
 unfold lA at h;split at h
 ·rename_i o ho;refine⟨o,ho,fun e he hb=>?_⟩;have:=aeT.1 h e (by simpa using he);simpa [hb] using this
 ·cases h
theorem J7{all:Array Oper}{done i:Nat}{o:Oper}(ho:all[i]? =some o)(h: ∀e∈o.after,afJ .any e=true→done.testBit e.on=true):lA all done i=true:=by
 unfold lA;simp only [ho];refine aeT.2 fun e he=>?_
 cases hb:afJ .any e with
 | false=>rfl
 | true=>rw [h e (by simpa using he) hb];rfl
section
variable {P:Program} {C:Ctx} {ar:Value→List HP→Prop} {Fs:List HP} {w0:World} {all:Array Oper} {pm:List Nat}
variable {ro:Option Nat} {nt:NT} {a0:Act} {aV:Array Bool} {a:Act} {w:World} {rest:List Nat} {done:Nat} {log:List (Nat×List Nat)} {st:St} {ρ:Env} {W:List Wr}
theorem DI.quiet(hT:bG P C.T=true)(h:DI P Fs w0 all ro nt a0 aV a w rest done log st ρ W){i:Nat}{o:Oper}(Tr:i∈rest)(cV:lA all done i=true)(hi:all[i]? =some o)(vV:pB st o.dst=true)
  {g:Option BE} {res:hZ} (hg:qd all (restrict st.fr (slotsOf all o)) st.known o=some g) (YT:gsc st.bd g=true)
  (hr:D1 C g {st with fr:=restrict st.fr (slotsOf all o)} o=some res) (he:res.hO= .none) (bY:mC ρ g=true→∀b∈res.vcs,b.prop ρ):
  DI P Fs w0 all ro nt a0 aV a w (rest.filter fun j=>j != i) (done|||(1 <<< i)) ((i,res.rd)::log)
   (({st with known:=Bz g res.vcs st.known}:St).put o.dst (J8 g res.val)) ρ
   (W++[(i,o.dst,if mC ρ g then res.val.val ρ else undef)]):=by
 have J5:res.sc st.bd=true:=by
  rcases xV hr with⟨_,rfl⟩ | hr
  ·rfl
  ·exact(kI hr).2
 have RW:=J5;simp only [hZ.sc,ai,he,zq.grow]at RW;obtain⟨⟨j_,vW⟩,_⟩:=RW;have RY:i ∉ W.map (·.1):=((h.rest i).1 Tr).2;have rS:jr aV i=false:=by
  cases hl:jr aV i with
  | false=>rfl
  | true=>exact absurd (h.sub i hl) RY
 have hv:(if mC ρ g=true then res.val.val ρ else undef)=(J8 g res.val).val ρ:=by
  cases g with
  | none=>rfl
  | some c=>rfl
 have iJ:(J8 g res.val).sc st.bd=true:=by
  cases g with
  | none=>exact j_
  | some c=>simp only [J8,SV.sc,ai];exact⟨YT,j_⟩
 have wC:HW Fs w0 ({st with known:=Bz g res.vcs st.known}:St) ρ w:=by
  cases g with
  | some c=>exact h.hw
  | none=>
   refine⟨h.hw.lens,h.hw.kd,h.hw.fm,?_,fun b hb=>?_,h.hw.own,h.hw.same,h.hw.kS⟩
   ·show(more res.vcs st.known).all (BE.sc st.bd)=true;unfold more;rw [List.all_append,h.hw.mL,Bool.and_true];exact aeT.2 fun x hx=>aeT.1 vW x (afk.1 hx).1
   ·exact(List.mem_append.1 hb).elim (fun hm=>bY rfl b (afk.1 hm).1) (h.hw.kn b)
 have e:=dR ({st with known:=Bz g res.vcs st.known}:St) o.dst (J8 g res.val);refine⟨wC.put iJ,by rw [e.2.2.2.1];exact h.FD,?_,?_,?_,?_,?_,?_,h.P_,h.UJ,?_,?_⟩
 ·rw [List.filter_append,List.filter_cons_of_neg (by simp [rS]),List.filter_nil,List.append_nil];exact h.act
 ·rw [iO,sK];refine HA.put h.ha (fun x hx=>?_) hv _ rfl;rw [←h.FD];exact sO vV x hx
 ·rw [List.map_append,List.nodup_append];exact⟨h.nd,by simp,fun x hx y hy=>by
   simp only [afj,List.map_nil,afC]at hy;subst hy;intro VQ;subst VQ;exact RY hx⟩
 ·intro j;rw [u_,Bool.or_eq_true,h.done,List.map_append,List.mem_append];simp only [decide_eq_true_eq,afj,List.map_nil,afC];exact⟨fun hj=>hj.imp id Eq.symm,fun hj=>hj.imp id Eq.symm⟩
 ·intro j;rw [afk,h.rest,List.map_append,List.mem_append];simp only [bne_iff_ne,ne_eq,afj,List.map_nil,afC,not_or,and_assoc]
 ·intro j hj;rw [List.map_append];exact List.mem_append_left _ (h.sub j hj)
 ·intro W1 x W2 hW;rcases n9 hW with⟨rfl,rfl,rfl⟩ | ⟨J6,rfl,PG⟩
  ·obtain⟨o',H4,zp⟩:=D3 cV;rw [hi]at H4;cases H4;exact⟨o,hi,rfl,fun e he hb=>(h.done _).1 (zp e he hb)⟩
  ·exact h.Qa W1 x J6 PG
 ·intro W1 x W2 hW Gg;rcases n9 hW with⟨rfl,rfl,rfl⟩ | ⟨J6,rfl,PG⟩
  ·refine⟨o,res.rd,st.hp,ρ,hi,aeZ,?_,fun j _ ck Ld=>⟨ck,by rw [e.1];exact Ld,rfl⟩⟩;exact Gf hT hi hg hr he h.hw.kn h.hw.lens bY (h.ha)
  ·obtain⟨o',rd,hp,bI,h1,h2,h3,h4⟩:=h.Qb W1 x J6 PG Gg;exact⟨o',rd,hp,bI,h1,ae4 _ h2,h3,by rw [e.1];exact h4⟩
theorem wD{aV:Array Bool}{i j:Nat}(hi:i<aV.size):jr (aV.setIfInBounds i true) j=(decide (i=j)||jr aV j):=by
 unfold jr;by_cases h:i=j
 ·subst h;simp [Array.getElem?_setIfInBounds_self_of_lt hi]
 ·rw [getD_set_ne false h];simp [h]
theorem DI.pending(h:DI P Fs w0 all ro nt a0 aV a w rest done log st ρ W)(sN:j4 all pm=true)(Aw:xU all pm=true){i:Nat}{o:Oper}(hi:all[i]? =some o)(rS:jr aV i=false)
  (n8: ∀e∈o.after,afJ .any e=true→jr aV e.on=true) (RY:i∈W.map (·.1)) (Q:Exit→Act→World→Prop) (K:Act→World→Prop)
  (hK: ∀a',DI P Fs w0 all ro nt a0 (aV.setIfInBounds i true) a' w rest done log st ρ W→K a' w):wpOpIn (FW ro) 0 P all Q i K a w:=by
 obtain⟨x,hx,rfl⟩:=List.mem_map.1 RY;obtain⟨W1,W2,hW⟩:=List.append_of_mem hx;obtain⟨o',rd,hp,bI,h1,h2,h3,h4⟩:=h.Qb W1 x W2 hW rS;rw [hi]at h1;cases h1;have gn:=h.nd;rw [hW]at gn;simp only [List.map_append,afj]at gn;rw [List.nodup_append]at gn;obtain⟨acy,Tp,Tq⟩:=gn;have VO:x.1 ∉ W1.map (·.1):=fun hc=>Tq _ hc _ aeZ rfl
 have YU:x.1 ∉ W2.map (·.1):=(List.nodup_cons.1 Tp).1;have By:x.1<aV.size:=by rw [h.P_];exact(ae5.1 hi).1
 obtain⟨S,hS⟩:=h.hw.own;have vV:x.2.1=o.dst:=by
  obtain⟨o2,XK,hd2,_⟩:=h.Qa W1 x W2 hW;rw [hi]at XK;cases XK;exact hd2
 refine h3 a w S K Q (fun s hs=>?_) ?_ ?_ ?_ (hK _ ?_)
 ·rw [h.act,hW];refine u7 (fun y hy H5=>h.before sN Aw hi n8 hW VO (.inl hs) y hy H5) fun y hy H5=>?_
  rcases afd.1 hy with rfl | hy
  ·exact rS
  ·exact h.behind sN Aw hi rS hW (.inl hs) y hy H5
 ·rw [h.act,jZ,jZ]
 ·rw [h.act,nh,←nh W];exact h.ha.size
 ·intro j hj ck Ld;obtain⟨P8,Ts,xW⟩:=h4 j hj ck Ld;rw [←xW];exact xX S hS rd j hj P8 Ts
 ·have uf: ∀j,jr (aV.setIfInBounds x.1 true) j=(decide (x.1=j)||jr aV j):=fun j=>wD By
  refine⟨h.hw,h.FD,?_,h.ha,h.nd,h.done,h.rest,fun j hj=>?_,by simp [h.P_],fun p op hop hp e he hb=>?_,h.Qa,fun A y B hWy hny=>?_⟩
  ·have f1:W1.filter (fun y=>jr (aV.setIfInBounds x.1 true) y.1)=W1.filter (fun y=>jr aV y.1):=List.filter_congr fun y hy=>by
    have:x.1≠y.1:=fun e=>VO (by rw [e];exact List.mem_map.2 ⟨y,hy,rfl⟩)
    rw [uf];simp [this]
   have f2:W2.filter (fun y=>jr (aV.setIfInBounds x.1 true) y.1)=W2.filter (fun y=>jr aV y.1):=List.filter_congr fun y hy=>by
    have:x.1≠y.1:=fun e=>YU (by rw [e];exact List.mem_map.2 ⟨y,hy,rfl⟩)
    rw [uf];simp [this]
   rw [h.act,hW,List.filter_append,List.filter_append,f1,List.filter_cons_of_neg (by simp [rS]),List.filter_cons_of_pos (by rw [uf];simp),f2,iO,iO];have:x::W2.filter (fun y=>jr aV y.1)=[(x.1,x.2.1,x.2.2)]++W2.filter (fun y=>jr aV y.1):=rfl;rw [this,iO,sK,As,vV];intro y hy s hs H5;obtain⟨PU,RO⟩:=afk.1 hy;have:=h.behind sN Aw hi rS hW (.inr (vV▸hs)) y PU H5;rw [this]at RO;cases RO
  ·rw [uf,Bool.or_eq_true]at hj;rcases hj with hj | hj
   ·rw [←of_decide_eq_true hj];exact RY
   ·exact h.sub j hj
  ·rw [uf,Bool.or_eq_true]at hp ⊢;rcases hp with hp | hp
   ·have:=of_decide_eq_true hp;subst this;rw [hi]at hop;cases hop;exact .inr (n8 e he hb)
   ·exact .inr (h.UJ p op hop hp e he hb)
  ·rw [uf,Bool.or_eq_false_iff]at hny;exact h.Qb A y B hWy hny.2
end
end Go.RX
