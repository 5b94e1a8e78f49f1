/- Executor. -/
import Derived.Test.YtphemenngjkfbaaRxY
open Array renaming getD_eq_getD_getElem? → agS, getElem?_eq_some_iff → agH
open Bool renaming and_eq_true → ai
open Go.Region renaming binds → ahh
open List renaming all_eq_true → agv, append_nil → agL, map_cons → agW, mem_cons_of_mem → agF, mem_cons_self → agA, mem_filter → agP, mem_map → ag9, mem_range → agJ, mem_singleton → agZ
open Nat renaming blt_eq → agM
namespace Go.RX
abbrev Wr:=Nat×Option Nat×Value
def nH(a:Act)(W:List Wr):Act:=W.foldl (fun a x=>a.put x.2.1 x.2.2) a
theorem jC(a:Act)(x y:List Wr):nH a (x++y)=nH (nH a x) y:=List.foldl_append ..
theorem vn(a:Act)(i:Nat)(d:Option Nat)(v:Value):nH a [(i,d,v)]=a.put d v:=rfl
theorem vo(a:Act)(d:Option Nat)(v:Value):(a.put d v).tmps.size=a.tmps.size:=by cases d<;>simp [Act.put]
theorem put_defers(a:Act)(d:Option Nat)(v:Value):(a.put d v).defers=a.defers:=by cases d<;>rfl
theorem pe: ∀(W:List Wr) (a:Act),(nH a W).tmps.size=a.tmps.size
 | [],_=>rfl
 | x::r,a=>by
  show(nH (a.put x.2.1 x.2.2) r).tmps.size=_;rw [pe r,vo]
theorem lM: ∀(W:List Wr) (a:Act),(nH a W).defers=a.defers
 | [],_=>rfl
 | x::r,a=>by
  show(nH (a.put x.2.1 x.2.2) r).defers=_;rw [lM r,put_defers]
theorem wW(a:Act)(d:Option Nat)(v:Value)(s:Nat)(h:d≠some s):(a.put d v).tmps.getD s undef=a.tmps.getD s undef:=by
 cases d with
 | none=>rfl
 | some d=>
  have:d≠s:=fun e=>h (by rw [e])
  simp only [Act.put];rw [agS,agS,Array.getElem?_setIfInBounds_ne this]
theorem Ax(a:Act)(d:Nat)(v:Value)(h:d<a.tmps.size):(a.put (some d) v).tmps.getD d undef=v:=by
 simp only [Act.put];rw [agS,Array.getElem?_setIfInBounds_self_of_lt h];rfl
theorem Oe(a b:Act)(d:Option Nat)(v:Value)(s:Nat)(hs:a.tmps.size=b.tmps.size)(h:a.tmps.getD s undef=b.tmps.getD s undef):
  (a.put d v).tmps.getD s undef=(b.put d v).tmps.getD s undef:=by
 by_cases hd:d=some s
 ·subst hd;by_cases cZ:s<a.tmps.size
  ·rw [Ax a s v cZ,Ax b s v (by omega)]
  ·simp only [Act.put];rw [agS,agS,Array.getElem?_eq_none (by simpa using cZ),Array.getElem?_eq_none (by simp;omega)]
 ·rw [wW a d v s hd,wW b d v s hd,h]
theorem sh(s:Nat): ∀(W:List Wr) (a b:Act),a.tmps.size=b.tmps.size→a.tmps.getD s undef=b.tmps.getD s undef→
  (nH a W).tmps.getD s undef=(nH b (W.filter fun x=>x.2.1==some s)).tmps.getD s undef
 | [],a,b,_,h=>h
 | x::r,a,b,hs,h=>by
  show(nH (a.put x.2.1 x.2.2) r).tmps.getD s undef=_;by_cases hx:x.2.1=some s
  ·rw [List.filter_cons_of_pos (by simpa using hx)];show _=(nH (b.put x.2.1 x.2.2) _).tmps.getD s undef;exact sh s r _ _ (by rw [vo,vo,hs]) (Oe a b _ _ s hs h)
  ·rw [List.filter_cons_of_neg (by simpa using hx)];exact sh s r _ _ (by rw [vo,hs]) (by rw [wW a _ _ s hx,h])
theorem put_comm(a:Act){d d':Option Nat}(v v':Value)(h: ∀s,d=some s→d'≠some s):(a.put d v).put d' v'=(a.put d' v').put d v:=by
 cases d with
 | none=>rfl
 | some d=>
  cases d' with
  | none=>rfl
  | some d'=>
   have:d≠d':=fun e=>h d rfl (by rw [e])
   simp only [Act.put];rw [Array.setIfInBounds_comm _ _ this]
theorem C9(d:Option Nat)(v:Value): ∀(W:List Wr) (a:Act),(∀x∈W,∀s,d=some s→x.2.1≠some s)→nH (a.put d v) W=(nH a W).put d v
 | [],_,_=>rfl
 | x::r,a,h=>by
  show nH ((a.put d v).put x.2.1 x.2.2) r=(nH (a.put x.2.1 x.2.2) r).put d v;rw [put_comm a v x.2.2 (h x agA)];exact C9 d v r _ fun y hy=>h y (agF _ hy)
section order
variable {all:Array Oper} {pm:List Nat}
theorem wX(h:Ay all pm=true){p:Nat}{o:Oper}(ho:all[p]? =some o):
  (∀e∈o.after,ahh .any e=true→e.on<p)∧
  ∀q,q<all.size→(pm.getD p 0).testBit q=true→∃e∈o.after,ahh .any e=true∧(q=e.on∨(pm.getD e.on 0).testBit q=true):=by
 have hp:p<all.size:=(agH.1 ho).1;have:=agv.1 h p (agJ.2 hp);simp only [ho,ai]at this;refine⟨fun e he hb=>?_,fun q hq Og=>?_⟩
 ·have h1:=agv.1 this.1 e (by simpa using he);simpa [hb,agM] using h1
 ·have h1:=agv.1 this.2 q (agJ.2 hq);rw [Og]at h1;simp only [Bool.not_true,Bool.false_or]at h1;obtain⟨e,he,h2⟩:=List.any_eq_true.1 h1;simp only [ai,Bool.or_eq_true,beq_iff_eq]at h2;exact⟨e,by simpa using he,h2.1,h2.2⟩
theorem C_(h:Ay all pm=true)(X:Nat→Prop)(hX: ∀p o,all[p]? =some o→X p→∀e∈o.after,ahh .any e=true→X e.on):
  ∀(p:Nat) (o:Oper),all[p]? =some o→X p→∀q,q<all.size→(pm.getD p 0).testBit q=true→X q:=by
 intro p
 induction p using Nat.strongRecOn with
 | _ p ih=>
  intro o ho hXp q hq Og;obtain⟨h1,h2⟩:=wX h ho;obtain⟨e,he,hb,Af⟩:=h2 q hq Og;have XT:=hX p o ho hXp e he hb;rcases Af with rfl | Oh
  ·exact XT
  ·have cZ:=h1 e he hb;have hp:p<all.size:=(agH.1 ho).1;have hoe:all[e.on]? =some all[e.on]:=Array.getElem?_eq_getElem (by omega);exact ih e.on cZ _ hoe XT q hq Oh
theorem vp(h:Ay all pm=true)(X:Nat→Prop)(hX: ∀p o,all[p]? =some o→X p→∀e∈o.after,ahh .any e=true→X e.on)
  {p:Nat} {o:Oper} (ho:all[p]? =some o) (hr: ∀e∈o.after,ahh .any e=true→X e.on) {q:Nat} (hq:q<all.size) (Og:(pm.getD p 0).testBit q=true):X q:=by
 obtain⟨h1,h2⟩:=wX h ho;obtain⟨e,he,hb,Af⟩:=h2 q hq Og;have XT:=hr e he hb;rcases Af with rfl | Oh
 ·exact XT
 ·have cZ:=h1 e he hb;have hp:p<all.size:=(agH.1 ho).1;have hoe:all[e.on]? =some all[e.on]:=Array.getElem?_eq_getElem (by omega);exact C_ h X hX e.on _ hoe XT q hq Oh
theorem tg(h:lN all pm=true){i j d:Nat}{oi oj:Oper}(hi:all[i]? =some oi)(hj:all[j]? =some oj)(hd:oi.dst=some d)
  (hs:d∈slotsOf all oj∨oj.dst=some d) (eJ:i≠j):(pm.getD j 0).testBit i=true∨(pm.getD i 0).testBit j=true:=by
 have FA:i<all.size:=(agH.1 hi).1;have Az:j<all.size:=(agH.1 hj).1;have h1:=agv.1 h i (agJ.2 FA);simp only [hi,hd]at h1;have h2:=agv.1 h1 j (agJ.2 Az);simp only [hj,Bool.or_eq_true,beq_iff_eq,Bool.not_eq_true',Bool.or_eq_false_iff,beq_eq_false_iff_ne]at h2;rcases h2 with((h2 | h2) | h2) | h2
 ·exact absurd h2 eJ
 ·rcases hs with hs | hs
  ·have:(slotsOf all oj).contains d=true:=by simpa using hs
   rw [this]at h2;cases h2.1
  ·exact absurd hs h2.2
 ·exact .inl h2
 ·exact .inr h2
end order
theorem wY{x:List (Nat×SV)}{f:Nat→Bool}{s:Nat}{v:SV}(h:look (x.filter fun y=>f y.1) s=some v):f s=true:=by
 induction x with
 | nil=>cases h
 | cons t r ih=>
  obtain⟨q,u⟩:=t;by_cases hf:f q=true
  ·rw [List.filter_cons_of_pos (by exact hf)]at h;unfold look at h;split at h
   ·rename_i hq;rw [beq_iff_eq]at hq;subst hq;exact hf
   ·exact ih h
  ·rw [List.filter_cons_of_neg (by exact hf)]at h;exact ih h
section
variable {P:Program} {C:Ctx} {aq:Value→List HP→Prop} {Fs:List HP} {w0:World} {all:Array Oper} {pm:List Nat}
def XU(P:Program)(all:Array Oper)(ro:Option Nat)(nt:NT)(i:Nat)(o:Oper)(v:Value)(base:Act)(hp:List Ck)(ρ:Env)(rd:List Nat):Prop:=
 ∀(a':Act) (w':World) (S:Nat→Nat→Prop) (K:Act→World→Prop) (Q:Exit→Act→World→Prop),(∀s∈slotsOf all o,a'.tmps.getD s undef=base.tmps.getD s undef)→a'.defers=base.defers→nt.n≤a'.tmps.size→
  Reads hp ρ w' S rd→K (a'.put o.dst v) w'→wpOpIn (FW ro) 0 P all Q i K a' w'
theorem x_{fr:List (Nat×SV)}{nt:NT}{ρ:Env}{base a':Act}{slots:List Nat}(h:HA fr nt ρ base)(hs: ∀s∈slots,a'.tmps.getD s undef=base.tmps.getD s undef)(hd:a'.defers=base.defers)(hn:nt.n≤a'.tmps.size):
  HA (restrict fr slots) nt ρ a':=by
 refine⟨hd.trans h.defers,hn,fun s v hl=>?_⟩;have h1:=m_ (f:=fun q=>slots.contains q) hl;have h2:=wY (f:=fun q=>slots.contains q) hl;rw [hs s (by simpa using h2),h.slots s v h1]
theorem IB(hT:bC P C.T=true){ro:Option Nat}{nt:NT}{i:Nat}{o:Oper}(hi:all[i]? =some o){st:St}{ρ:Env}{base:Act}{g:Option BE}{res:iC}
  (hg:si all (restrict st.fr (slotsOf all o)) st.known o=some g) (hr:Gg C g {st with fr:=restrict st.fr (slotsOf all o)} o=some res) (he:res.ij= .none)
  (hk: ∀b∈st.known,b.prop ρ) (hl:gK ρ st.aS) (cu:oE ρ g=true→∀b∈res.vcs,b.prop ρ) (ha:HA st.fr nt ρ base):
  XU P all ro nt i o (if oE ρ g then res.val.val ρ else undef) base st.hp ρ res.rd:=by
 intro a' w' S K Q hs hd hn dp hK;have vq:=x_ ha hs hd hn;have na:=lx vq hk hg;unfold wpOpIn;simp only [hi];rw [na];cases Mj:oE ρ g with
 | false=>
  rw [if_neg (by simp)];rw [Mj,if_neg (by simp)]at hK;exact⟨fun _ _=>trivial,hK⟩
 | true=>
  rw [if_pos rfl];rw [Mj,if_pos rfl]at hK;have hr:pZ C g {st with fr:=restrict st.fr (slotsOf all o)} o=some res:=by
   rcases AA hr with⟨rfl,_⟩ | hr
   ·cases Mj
   ·exact hr
  obtain⟨Gh,Mk⟩:=mI hr;have u6:uZ ρ (Dx g st.known (restrict st.fr (slotsOf all o))) a'.eval:=vq.wZ hk Mj;have hD:=ri (P:=P) hT (Env.ok ρ) u6 Gh dp (cu Mj) hl.b;unfold Did at hD;rw [he]at hD;exact nU (w5 Gh) (.inl hD) hK
abbrev kF(listed:Array Bool)(i:Nat):Bool:=listed.getD i false
structure DI (P:Program) (Fs:List HP) (w0:World) (all:Array Oper) (ro:Option Nat) (nt:NT) (a0:Act) (listed:Array Bool) (a:Act) (w:World)
  (rest:List Nat) (done:Nat) (log:List (Nat×List Nat)) (st:St) (ρ:Env) (W:List Wr):Prop where
 hw:HW Fs w0 st ρ w
 NF:st.nt=nt
 act:a=nH a0 (W.filter fun x=>kF listed x.1)
 ha:HA st.fr nt ρ (nH a0 W)
 nd:(W.map (·.1)).Nodup
 done: ∀i,done.testBit i=true↔i∈W.map (·.1)
 rest: ∀i,i∈rest↔i<all.size∧i ∉ W.map (·.1)
 sub: ∀i,kF listed i=true→i∈W.map (·.1)
 R_:listed.size=all.size
 WZ: ∀p o,all[p]? =some o→kF listed p=true→∀e∈o.after,ahh .any e=true→kF listed e.on=true
 Sa: ∀W1 x W2,W=W1++x::W2→∃o,all[x.1]? =some o∧x.2.1=o.dst∧∀e∈o.after,ahh .any e=true→e.on∈W1.map (·.1)
 Sb: ∀W1 x W2,W=W1++x::W2→kF listed x.1=false→∃o rd hp bI,all[x.1]? =some o∧(x.1,rd)∈log∧XU P all ro nt x.1 o x.2.2 (nH a0 W1) hp bI rd∧
  ∀j∈rd,∀ck,hp[j]? =some ck→∃Rk,st.hp[j]? =some Rk∧Rk.den ρ=ck.den bI
section agree
variable {ro:Option Nat} {nt:NT} {a0:Act} {listed:Array Bool} {a:Act} {w:World} {rest:List Nat} {done:Nat} {log:List (Nat×List Nat)} {st:St} {ρ:Env} {W:List Wr}
theorem DI.TX(h:DI P Fs w0 all ro nt a0 listed a w rest done log st ρ W){A B:List Wr}(hW:W=A++B):
  ∀p o,all[p]? =some o→p∈A.map (·.1)→∀e∈o.after,ahh .any e=true→e.on∈A.map (·.1):=by
 intro p o ho hp e he hb;obtain⟨y,hy,rfl⟩:=ag9.1 hp;obtain⟨A1,A2,rfl⟩:=List.append_of_mem hy;obtain⟨o',NG,_,Cg⟩:=h.Sa A1 y (A2++B) (by rw [hW];simp);rw [ho]at NG;cases NG;have:=Cg e he hb;rw [List.map_append];exact List.mem_append_left _ this
theorem DI.before(h:DI P Fs w0 all ro nt a0 listed a w rest done log st ρ W)(vu:lN all pm=true)(Dy:Ay all pm=true){i:Nat}{o:Oper}(hi:all[i]? =some o)
  (p_: ∀e∈o.after,ahh .any e=true→kF listed e.on=true) {W1 tail:List Wr} (hW:W=W1++tail) (XV:i ∉ W1.map (·.1)) {s:Nat} (hs:s∈slotsOf all o∨o.dst=some s):
  ∀y∈W1,y.2.1=some s→kF listed y.1=true:=by
 intro y hy Ks;obtain⟨A,B,rfl⟩:=List.append_of_mem hy;obtain⟨oy,Vp,hdy,Cg⟩:=h.Sa A y (B++tail) (by rw [hW];simp);have eJ:y.1≠i:=fun e=>XV (by rw [←e];simp)
 have W0:y.1<all.size:=(agH.1 Vp).1;have FA:i<all.size:=(agH.1 hi).1;rcases tg vu Vp hi (hdy▸Ks) hs eJ with hb | hb
 ·exact vp Dy (fun q=>kF listed q=true) h.WZ hi p_ W0 hb
 ·have:=vp Dy (fun q=>q∈A.map (·.1)) (h.TX (A:=A) (B:=y::(B++tail)) (by rw [hW];simp)) Vp Cg FA hb;exact absurd (by rw [List.map_append];exact List.mem_append_left _ this) XV
theorem DI.behind(h:DI P Fs w0 all ro nt a0 listed a w rest done log st ρ W)(vu:lN all pm=true)(Dy:Ay all pm=true){W1 W2:List Wr}{x:Wr}{o:Oper}(hi:all[x.1]? =some o)
  (uL:kF listed x.1=false) (hW:W=W1++x::W2) {s:Nat} (hs:s∈slotsOf all o∨o.dst=some s):
  ∀y∈W2,y.2.1=some s→kF listed y.1=false:=by
 intro y hy Ks;obtain⟨A,B,rfl⟩:=List.append_of_mem hy;obtain⟨oy,Vp,hdy,Cg⟩:=h.Sa (W1++x::A) y B (by rw [hW];simp);obtain⟨ox,hox,_,XW⟩:=h.Sa W1 x (A++y::B) hW;rw [hi]at hox;cases hox;have gE:=h.nd;rw [hW]at gE;simp only [List.map_append,agW]at gE;rw [List.nodup_append]at gE;obtain⟨_,Vq,Vr⟩:=gE;have W0:y.1<all.size:=(agH.1 Vp).1;have FA:x.1<all.size:=(agH.1 hi).1;have eJ:y.1≠x.1:=fun e=>by
  have:=(List.nodup_cons.1 Vq).1;exact this (by rw [←e];simp)
 rcases tg vu Vp hi (hdy▸Ks) hs eJ with hb | hb
 ·have:=vp Dy (fun q=>q∈W1.map (·.1)) (h.TX (A:=W1) (B:=x::(A++y::B)) hW) hi XW W0 hb;exact absurd rfl (Vr _ this _ (by simp))
 ·cases hl:kF listed y.1 with
  | false=>rfl
  | true=>
   have:=C_ Dy (fun q=>kF listed q=true) h.WZ y.1 oy Vp hl x.1 FA hb;rw [uL]at this;cases this
theorem yd{W1 tail:List Wr}{s:Nat}(h1: ∀y∈W1,y.2.1=some s→kF listed y.1=true)(h2: ∀y∈tail,y.2.1=some s→kF listed y.1=false):
  (nH a0 ((W1++tail).filter fun x=>kF listed x.1)).tmps.getD s undef=(nH a0 W1).tmps.getD s undef:=by
 rw [sh s _ a0 a0 rfl rfl,sh s W1 a0 a0 rfl rfl];have e2:(tail.filter fun x=>kF listed x.1).filter (fun x=>x.2.1==some s)=[]:=by
  rw [List.filter_filter,List.filter_eq_nil_iff];intro y hy hc;simp only [ai,beq_iff_eq]at hc;rw [h2 y hy hc.1]at hc;cases hc.2
 have e1:(W1.filter fun x=>kF listed x.1).filter (fun x=>x.2.1==some s)=W1.filter (fun x=>x.2.1==some s):=by
  rw [List.filter_filter];refine List.filter_congr fun y hy=>?_
  by_cases Ks:y.2.1=some s
  ·rw [h1 y hy Ks,Bool.and_true]
  ·have:(y.2.1==some s)=false:=by simpa using Ks
   rw [this,Bool.false_and]
 rw [List.filter_append,List.filter_append,e1,e2,agL]
end agree
end
theorem ye(done i j:Nat):(done|||(1 <<< i)).testBit j=(done.testBit j||decide (i=j)):=by
 rw [Nat.testBit_or,Nat.one_shiftLeft,Nat.testBit_two_pow]
theorem qa{α:Type}{W:List α}{x:α}{W1:List α}{y:α}{W2:List α}(h:W++[x]=W1++y::W2):(W2=[]∧y=x∧W1=W)∨∃Ml,W2=Ml++[x]∧W=W1++y::Ml:=by
 rcases List.eq_nil_or_concat W2 with rfl | ⟨Ml,z,rfl⟩
 ·left;have:=List.append_inj' h rfl;exact⟨rfl,by simpa using this.2.symm,this.1.symm⟩
 ·right;have h':W++[x]=(W1++y::Ml)++[z]:=by rw [h];simp [List.concat_eq_append]
  have:=List.append_inj' h' rfl;have hz:x=z:=by simpa using this.2
  subst hz;exact⟨Ml,by simp [List.concat_eq_append],this.1⟩
theorem Gi{all:Array Oper}{done i:Nat}(h:nf all done i=true): ∃o,all[i]? =some o∧∀e∈o.after,ahh .any e=true→done.testBit e.on=true:=by
 unfold nf at h;split at h
 ·rename_i o ho;refine⟨o,ho,fun e he hb=>?_⟩;have:=agv.1 h e (by simpa using he);simpa [hb] using this
 ·cases h
theorem Mn{all:Array Oper}{done i:Nat}{o:Oper}(ho:all[i]? =some o)(h: ∀e∈o.after,ahh .any e=true→done.testBit e.on=true):nf all done i=true:=by
 unfold nf;simp only [ho];refine agv.2 fun e he=>?_
 cases hb:ahh .any e with
 | false=>rfl
 | true=>rw [h e (by simpa using he) hb];rfl
section
variable {P:Program} {C:Ctx} {aq:Value→List HP→Prop} {Fs:List HP} {w0:World} {all:Array Oper} {pm:List Nat}
variable {ro:Option Nat} {nt:NT} {a0:Act} {listed:Array Bool} {a:Act} {w:World} {rest:List Nat} {done:Nat} {log:List (Nat×List Nat)} {st:St} {ρ:Env} {W:List Wr}
theorem DI.quiet(hT:bC P C.T=true)(h:DI P Fs w0 all ro nt a0 listed a w rest done log st ρ W){i:Nat}{o:Oper}(Vs:i∈rest)(dp:nf all done i=true)(hi:all[i]? =some o)(yV:rj st o.dst=true)
  {g:Option BE} {res:iC} (hg:si all (restrict st.fr (slotsOf all o)) st.known o=some g) (hgs:gsc st.aS g=true)
  (hr:Gg C g {st with fr:=restrict st.fr (slotsOf all o)} o=some res) (he:res.ij= .none) (cu:oE ρ g=true→∀b∈res.vcs,b.prop ρ):
  DI P Fs w0 all ro nt a0 listed a w (rest.filter fun j=>j != i) (done|||(1 <<< i)) ((i,res.rd)::log)
   (({st with known:=EC g res.vcs st.known}:St).put o.dst (Mo g res.val)) ρ
   (W++[(i,o.dst,if oE ρ g then res.val.val ρ else undef)]):=by
 have Mk:res.sc st.aS=true:=by
  rcases AA hr with⟨_,rfl⟩ | hr
  ·rfl
  ·exact(mI hr).2
 have TY:=Mk;simp only [iC.sc,ai,he,Ch.grow]at TY;obtain⟨⟨iX,vw⟩,_⟩:=TY;have TZ:i ∉ W.map (·.1):=((h.rest i).1 Vs).2;have uL:kF listed i=false:=by
  cases hl:kF listed i with
  | false=>rfl
  | true=>exact absurd (h.sub i hl) TZ
 have hv:(if oE ρ g=true then res.val.val ρ else undef)=(Mo g res.val).val ρ:=by
  cases g with
  | none=>rfl
  | some c=>rfl
 have jx:(Mo g res.val).sc st.aS=true:=by
  cases g with
  | none=>exact iX
  | some c=>simp only [Mo,SV.sc,ai];exact⟨hgs,iX⟩
 have zh:HW Fs w0 ({st with known:=EC g res.vcs st.known}:St) ρ w:=by
  cases g with
  | some c=>exact h.hw
  | none=>
   refine⟨h.hw.lens,h.hw.lX,h.hw.gF,?_,fun b hb=>?_,h.hw.own,h.hw.same,h.hw.mP⟩
   ·show(more res.vcs st.known).all (BE.sc st.aS)=true;unfold more;rw [List.all_append,h.hw.oO,Bool.and_true];exact agv.2 fun x hx=>agv.1 vw x (agP.1 hx).1
   ·exact(List.mem_append.1 hb).elim (fun hm=>cu rfl b (agP.1 hm).1) (h.hw.kn b)
 have e:=eF ({st with known:=EC g res.vcs st.known}:St) o.dst (Mo g res.val);refine⟨zh.put jx,by rw [e.2.2.2.1];exact h.NF,?_,?_,?_,?_,?_,?_,h.R_,h.WZ,?_,?_⟩
 ·rw [List.filter_append,List.filter_cons_of_neg (by simp [uL]),List.filter_nil,agL];exact h.act
 ·rw [jC,vn];refine HA.put h.ha (fun x hx=>?_) hv _ rfl;rw [←h.NF];exact vz yV x hx
 ·rw [List.map_append,List.nodup_append];exact⟨h.nd,by simp,fun x hx y hy=>by
   simp only [agW,List.map_nil,agZ]at hy;subst hy;intro XX;subst XX;exact TZ hx⟩
 ·intro j;rw [ye,Bool.or_eq_true,h.done,List.map_append,List.mem_append];simp only [decide_eq_true_eq,agW,List.map_nil,agZ];exact⟨fun hj=>hj.imp id Eq.symm,fun hj=>hj.imp id Eq.symm⟩
 ·intro j;rw [agP,h.rest,List.map_append,List.mem_append];simp only [bne_iff_ne,ne_eq,agW,List.map_nil,agZ,not_or,and_assoc]
 ·intro j hj;rw [List.map_append];exact List.mem_append_left _ (h.sub j hj)
 ·intro W1 x W2 hW;rcases qa hW with⟨rfl,rfl,rfl⟩ | ⟨Ml,rfl,Se⟩
  ·obtain⟨o',NG,Cg⟩:=Gi dp;rw [hi]at NG;cases NG;exact⟨o,hi,rfl,fun e he hb=>(h.done _).1 (Cg e he hb)⟩
  ·exact h.Sa W1 x Ml Se
 ·intro W1 x W2 hW IC;rcases qa hW with⟨rfl,rfl,rfl⟩ | ⟨Ml,rfl,Se⟩
  ·refine⟨o,res.rd,st.hp,ρ,hi,agA,?_,fun j _ ck Iy=>⟨ck,by rw [e.1];exact Iy,rfl⟩⟩;exact IB hT hi hg hr he h.hw.kn h.hw.lens cu (h.ha)
  ·obtain⟨o',rd,hp,bI,h1,h2,h3,h4⟩:=h.Sb W1 x Ml Se IC;exact⟨o',rd,hp,bI,h1,agF _ h2,h3,by rw [e.1];exact h4⟩
theorem zi{listed:Array Bool}{i j:Nat}(hi:i<listed.size):kF (listed.setIfInBounds i true) j=(decide (i=j)||kF listed j):=by
 unfold kF;by_cases h:i=j
 ·subst h;simp [Array.getElem?_setIfInBounds_self_of_lt hi]
 ·rw [getD_set_ne false h];simp [h]
theorem DI.pending(h:DI P Fs w0 all ro nt a0 listed a w rest done log st ρ W)(vu:lN all pm=true)(Dy:Ay all pm=true){i:Nat}{o:Oper}(hi:all[i]? =some o)(uL:kF listed i=false)
  (p_: ∀e∈o.after,ahh .any e=true→kF listed e.on=true) (TZ:i∈W.map (·.1)) (Q:Exit→Act→World→Prop) (K:Act→World→Prop)
  (hK: ∀a',DI P Fs w0 all ro nt a0 (listed.setIfInBounds i true) a' w rest done log st ρ W→K a' w):wpOpIn (FW ro) 0 P all Q i K a w:=by
 obtain⟨x,hx,rfl⟩:=ag9.1 TZ;obtain⟨W1,W2,hW⟩:=List.append_of_mem hx;obtain⟨o',rd,hp,bI,h1,h2,h3,h4⟩:=h.Sb W1 x W2 hW uL;rw [hi]at h1;cases h1;have gE:=h.nd;rw [hW]at gE;simp only [List.map_append,agW]at gE;rw [List.nodup_append]at gE;obtain⟨aeu,Vq,Vr⟩:=gE;have XV:x.1 ∉ W1.map (·.1):=fun hc=>Vr _ hc _ agA rfl
 have aaY:x.1 ∉ W2.map (·.1):=(List.nodup_cons.1 Vq).1;have FA:x.1<listed.size:=by rw [h.R_];exact(agH.1 hi).1
 obtain⟨S,hS⟩:=h.hw.own;have yV:x.2.1=o.dst:=by
  obtain⟨o2,ZN,ZO,_⟩:=h.Sa W1 x W2 hW;rw [hi]at ZN;cases ZN;exact ZO
 refine h3 a w S K Q (fun s hs=>?_) ?_ ?_ ?_ (hK _ ?_)
 ·rw [h.act,hW];refine yd (fun y hy Ks=>h.before vu Dy hi p_ hW XV (.inl hs) y hy Ks) fun y hy Ks=>?_
  rcases List.mem_cons.1 hy with rfl | hy
  ·exact uL
  ·exact h.behind vu Dy hi uL hW (.inl hs) y hy Ks
 ·rw [h.act,lM,lM]
 ·rw [h.act,pe,←pe W];exact h.ha.size
 ·intro j hj ck Iy;obtain⟨Rk,Mf,AB⟩:=h4 j hj ck Iy;rw [←AB];exact AD S hS rd j hj Rk Mf
 ·have w6: ∀j,kF (listed.setIfInBounds x.1 true) j=(decide (x.1=j)||kF listed j):=fun j=>zi FA
  refine⟨h.hw,h.NF,?_,h.ha,h.nd,h.done,h.rest,fun j hj=>?_,by simp [h.R_],fun p op H2 hp e he hb=>?_,h.Sa,fun A y B hWy hny=>?_⟩
  ·have f1:W1.filter (fun y=>kF (listed.setIfInBounds x.1 true) y.1)=W1.filter (fun y=>kF listed y.1):=List.filter_congr fun y hy=>by
    have:x.1≠y.1:=fun e=>XV (by rw [e];exact ag9.2 ⟨y,hy,rfl⟩)
    rw [w6];simp [this]
   have f2:W2.filter (fun y=>kF (listed.setIfInBounds x.1 true) y.1)=W2.filter (fun y=>kF listed y.1):=List.filter_congr fun y hy=>by
    have:x.1≠y.1:=fun e=>aaY (by rw [e];exact ag9.2 ⟨y,hy,rfl⟩)
    rw [w6];simp [this]
   rw [h.act,hW,List.filter_append,List.filter_append,f1,List.filter_cons_of_neg (by simp [uL]),List.filter_cons_of_pos (by rw [w6];simp),f2,jC,jC];have:x::W2.filter (fun y=>kF listed y.1)=[(x.1,x.2.1,x.2.2)]++W2.filter (fun y=>kF listed y.1):=rfl;rw [this,jC,vn,C9,yV];intro y hy s hs Ks;obtain⟨HX,TU⟩:=agP.1 hy;have:=h.behind vu Dy hi uL hW (.inr (yV▸hs)) y HX Ks;rw [this]at TU;cases TU
  ·rw [w6,Bool.or_eq_true]at hj;rcases hj with hj | hj
   ·rw [←of_decide_eq_true hj];exact TZ
   ·exact h.sub j hj
  ·rw [w6,Bool.or_eq_true]at hp ⊢;rcases hp with hp | hp
   ·have:=of_decide_eq_true hp;subst this;rw [hi]at H2;cases H2;exact .inr (p_ e he hb)
   ·exact .inr (h.WZ p op H2 hp e he hb)
  ·rw [w6,Bool.or_eq_false_iff]at hny;exact h.Sb A y B hWy hny.2
end
end Go.RX
