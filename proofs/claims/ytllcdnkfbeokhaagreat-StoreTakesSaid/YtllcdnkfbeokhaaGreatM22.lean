/- Executor. -/
import Derived.Test.YtllcdnkfbeokhaaGreatRxY
open Array renaming getD_eq_getD_getElem? → aqK, getElem?_eq_some_iff → aqw
open Bool renaming and_eq_true → ai
open Go.Region renaming binds → aq4
open List renaming all_eq_true → aqn, map_cons → aqP, mem_append → aqC, mem_cons_of_mem → aqv, mem_cons_self → aqr, mem_filter → aqL, mem_map → aqV, mem_range → aqE, mem_singleton → aqx
open Nat renaming blt_eq → aqB
namespace Go.RX
abbrev Wr:=Nat×Option Nat×Value
def ng(a:Act)(W:List Wr):Act:=W.foldl (fun a x=>a.put x.2.1 x.2.2) a
theorem jN(a:Act)(x y:List Wr):ng a (x++y)=ng (ng a x) y:=List.foldl_append ..
theorem uh(a:Act)(i:Nat)(d:Option Nat)(v:Value):ng a [(i,d,v)]=a.put d v:=rfl
theorem ui(a:Act)(d:Option Nat)(v:Value):(a.put d v).tmps.size=a.tmps.size:=by cases d<;>simp [Act.put]
theorem put_defers(a:Act)(d:Option Nat)(v:Value):(a.put d v).defers=a.defers:=by cases d<;>rfl
theorem oL: ∀(W:List Wr) (a:Act),(ng a W).tmps.size=a.tmps.size
 | [],_=>rfl
 | x::r,a=>by
  show(ng (a.put x.2.1 x.2.2) r).tmps.size=_;rw [oL r,ui]
theorem lq: ∀(W:List Wr) (a:Act),(ng a W).defers=a.defers
 | [],_=>rfl
 | x::r,a=>by
  show(ng (a.put x.2.1 x.2.2) r).defers=_;rw [lq r,put_defers]
theorem vp(a:Act)(d:Option Nat)(v:Value)(s:Nat)(h:d≠some s):(a.put d v).tmps.getD s undef=a.tmps.getD s undef:=by
 cases d with
 | none=>rfl
 | some d=>
  have:d≠s:=fun e=>h (by rw [e])
  simp only [Act.put];rw [aqK,aqK,Array.getElem?_setIfInBounds_ne this]
theorem yW(a:Act)(d:Nat)(v:Value)(h:d<a.tmps.size):(a.put (some d) v).tmps.getD d undef=v:=by
 simp only [Act.put];rw [aqK,Array.getElem?_setIfInBounds_self_of_lt h];rfl
theorem ML(a b:Act)(d:Option Nat)(v:Value)(s:Nat)(hs:a.tmps.size=b.tmps.size)(h:a.tmps.getD s undef=b.tmps.getD s undef):
  (a.put d v).tmps.getD s undef=(b.put d v).tmps.getD s undef:=by
 by_cases hd:d=some s
 ·subst hd;by_cases cq:s<a.tmps.size
  ·rw [yW a s v cq,yW b s v (by omega)]
  ·simp only [Act.put];rw [aqK,aqK,Array.getElem?_eq_none (by simpa using cq),Array.getElem?_eq_none (by simp;omega)]
 ·rw [vp a d v s hd,vp b d v s hd,h]
theorem ru(s:Nat): ∀(W:List Wr) (a b:Act),a.tmps.size=b.tmps.size→a.tmps.getD s undef=b.tmps.getD s undef→
  (ng a W).tmps.getD s undef=(ng b (W.filter fun x=>x.2.1==some s)).tmps.getD s undef
 | [],a,b,_,h=>h
 | x::r,a,b,hs,h=>by
  show(ng (a.put x.2.1 x.2.2) r).tmps.getD s undef=_;by_cases hx:x.2.1=some s
  ·rw [List.filter_cons_of_pos (by simpa using hx)];show _=(ng (b.put x.2.1 x.2.2) _).tmps.getD s undef;exact ru s r _ _ (by rw [ui,ui,hs]) (ML a b _ _ s hs h)
  ·rw [List.filter_cons_of_neg (by simpa using hx)];exact ru s r _ _ (by rw [ui,hs]) (by rw [vp a _ _ s hx,h])
theorem put_comm(a:Act){d d':Option Nat}(v v':Value)(h: ∀s,d=some s→d'≠some s):(a.put d v).put d' v'=(a.put d' v').put d v:=by
 cases d with
 | none=>rfl
 | some d=>
  cases d' with
  | none=>rfl
  | some d'=>
   have:d≠d':=fun e=>h d rfl (by rw [e])
   simp only [Act.put];rw [Array.setIfInBounds_comm _ _ this]
theorem Bh(d:Option Nat)(v:Value): ∀(W:List Wr) (a:Act),(∀x∈W,∀s,d=some s→x.2.1≠some s)→ng (a.put d v) W=(ng a W).put d v
 | [],_,_=>rfl
 | x::r,a,h=>by
  show ng ((a.put d v).put x.2.1 x.2.2) r=(ng (a.put x.2.1 x.2.2) r).put d v;rw [put_comm a v x.2.2 (h x aqr)];exact Bh d v r _ fun y hy=>h y (aqv _ hy)
section order
variable {all:Array Oper} {pm:List Nat}
theorem vq(h:yX all pm=true){p:Nat}{o:Oper}(ho:all[p]? =some o):
  (∀e∈o.after,aq4 .any e=true→e.on<p)∧
  ∀q,q<all.size→(pm.getD p 0).testBit q=true→∃e∈o.after,aq4 .any e=true∧(q=e.on∨(pm.getD e.on 0).testBit q=true):=by
 have hp:p<all.size:=(aqw.1 ho).1;have:=aqn.1 h p (aqE.2 hp);simp only [ho,ai]at this;refine⟨fun e he hb=>?_,fun q hq MN=>?_⟩
 ·have h1:=aqn.1 this.1 e (by simpa using he);simpa [hb,aqB] using h1
 ·have h1:=aqn.1 this.2 q (aqE.2 hq);rw [MN]at h1;simp only [Bool.not_true,Bool.false_or]at h1;obtain⟨e,he,h2⟩:=List.any_eq_true.1 h1;simp only [ai,Bool.or_eq_true,beq_iff_eq]at h2;exact⟨e,by simpa using he,h2.1,h2.2⟩
theorem Bi(h:yX all pm=true)(X:Nat→Prop)(hX: ∀p o,all[p]? =some o→X p→∀e∈o.after,aq4 .any e=true→X e.on):
  ∀(p:Nat) (o:Oper),all[p]? =some o→X p→∀q,q<all.size→(pm.getD p 0).testBit q=true→X q:=by
 intro p
 induction p using Nat.strongRecOn with
 | _ p ih=>
  intro o ho hXp q hq MN;obtain⟨h1,h2⟩:=vq h ho;obtain⟨e,he,hb,xy⟩:=h2 q hq MN;have Zk:=hX p o ho hXp e he hb;rcases xy with rfl | MO
  ·exact Zk
  ·have cq:=h1 e he hb;have hp:p<all.size:=(aqw.1 ho).1;have Ri:all[e.on]? =some all[e.on]:=Array.getElem?_eq_getElem (by omega);exact ih e.on cq _ Ri Zk q hq MO
theorem uj(h:yX all pm=true)(X:Nat→Prop)(hX: ∀p o,all[p]? =some o→X p→∀e∈o.after,aq4 .any e=true→X e.on)
  {p:Nat} {o:Oper} (ho:all[p]? =some o) (hr: ∀e∈o.after,aq4 .any e=true→X e.on) {q:Nat} (hq:q<all.size) (MN:(pm.getD p 0).testBit q=true):X q:=by
 obtain⟨h1,h2⟩:=vq h ho;obtain⟨e,he,hb,xy⟩:=h2 q hq MN;have Zk:=hr e he hb;rcases xy with rfl | MO
 ·exact Zk
 ·have cq:=h1 e he hb;have hp:p<all.size:=(aqw.1 ho).1;have Ri:all[e.on]? =some all[e.on]:=Array.getElem?_eq_getElem (by omega);exact Bi h X hX e.on _ Ri Zk q hq MO
theorem si(h:lu all pm=true){i j d:Nat}{oi oj:Oper}(hi:all[i]? =some oi)(hj:all[j]? =some oj)(hd:oi.dst=some d)
  (hs:d∈slotsOf all oj∨oj.dst=some d) (fg:i≠j):(pm.getD j 0).testBit i=true∨(pm.getD i 0).testBit j=true:=by
 have DZ:i<all.size:=(aqw.1 hi).1;have hjl:j<all.size:=(aqw.1 hj).1;have h1:=aqn.1 h i (aqE.2 DZ);simp only [hi,hd]at h1;have h2:=aqn.1 h1 j (aqE.2 hjl);simp only [hj,Bool.or_eq_true,beq_iff_eq,Bool.not_eq_true',Bool.or_eq_false_iff,beq_eq_false_iff_ne]at h2;rcases h2 with((h2 | h2) | h2) | h2
 ·exact absurd h2 fg
 ·rcases hs with hs | hs
  ·have:(slotsOf all oj).contains d=true:=by simpa using hs
   rw [this]at h2;cases h2.1
  ·exact absurd hs h2.2
 ·exact .inl h2
 ·exact .inr h2
end order
theorem vr{x:List (Nat×SV)}{f:Nat→Bool}{s:Nat}{v:SV}(h:look (x.filter fun y=>f y.1) s=some v):f s=true:=by
 induction x with
 | nil=>cases h
 | cons t r ih=>
  obtain⟨q,u⟩:=t;by_cases hf:f q=true
  ·rw [List.filter_cons_of_pos (by exact hf)]at h;unfold look at h;split at h
   ·rename_i hq;rw [beq_iff_eq]at hq;subst hq;exact hf
   ·exact ih h
  ·rw [List.filter_cons_of_neg (by exact hf)]at h;exact ih h
section
variable {P:Program} {C:Ctx} {al:Value→List HP→Prop} {Fs:List HP} {w0:World} {all:Array Oper} {pm:List Nat}
def Zl(P:Program)(all:Array Oper)(ro:Option Nat)(nt:NT)(i:Nat)(o:Oper)(v:Value)(base:Act)(hp:List Ck)(ρ:Env)(rd:List Nat):Prop:=
 ∀(a':Act) (w':World) (S:Nat→Nat→Prop) (K:Act→World→Prop) (Q:Exit→Act→World→Prop),(∀s∈slotsOf all o,a'.tmps.getD s undef=base.tmps.getD s undef)→a'.defers=base.defers→nt.n≤a'.tmps.size→
  Reads hp ρ w' S rd→K (a'.put o.dst v) w'→wpOpIn (FW ro) 0 P all Q i K a' w'
theorem wM{fr:List (Nat×SV)}{nt:NT}{ρ:Env}{base a':Act}{aU:List Nat}(h:HA fr nt ρ base)(hs: ∀s∈aU,a'.tmps.getD s undef=base.tmps.getD s undef)(hd:a'.defers=base.defers)(hn:nt.n≤a'.tmps.size):
  HA (restrict fr aU) nt ρ a':=by
 refine⟨hd.trans h.defers,hn,fun s v hl=>?_⟩;have h1:=mM (f:=fun q=>aU.contains q) hl;have h2:=vr (f:=fun q=>aU.contains q) hl;rw [hs s (by simpa using h2),h.aU s v h1]
theorem Gv(hT:bx P C.T=true){ro:Option Nat}{nt:NT}{i:Nat}{o:Oper}(hi:all[i]? =some o){st:St}{ρ:Env}{base:Act}{g:Option BE}{res:gY}
  (hg:ry all (restrict st.fr (slotsOf all o)) st.known o=some g) (hr:D0 C g {st with fr:=restrict st.fr (slotsOf all o)} o=some res) (he:res.gZ= .none)
  (hk: ∀b∈st.known,b.prop ρ) (hl:hG ρ st.aW) (bY:nX ρ g=true→∀b∈res.vcs,b.prop ρ) (ha:HA st.fr nt ρ base):
  Zl P all ro nt i o (if nX ρ g then res.val.val ρ else undef) base st.hp ρ res.rd:=by
 intro a' w' S K Q hs hd hn cN hK;have vu:=wM ha hs hd hn;have mN:=kW vu hk hg;unfold wpOpIn;simp only [hi];rw [mN];cases JY:nX ρ g with
 | false=>
  rw [if_neg (by simp)];rw [JY,if_neg (by simp)]at hK;exact⟨fun _ _=>trivial,hK⟩
 | true=>
  rw [if_pos rfl];rw [JY,if_pos rfl]at hK;have hr:pj C g {st with fr:=restrict st.fr (slotsOf all o)} o=some res:=by
   rcases yY hr with⟨rfl,_⟩ | hr
   ·cases JY
   ·exact hr
  obtain⟨D1,JZ⟩:=lX hr;have sM:tL ρ (Bj g st.known (restrict st.fr (slotsOf all o))) a'.eval:=vu.vw hk JY;have hD:=qA (P:=P) hT (Env.ok ρ) sM D1 cN (bY JY) hl.b;unfold Did at hD;rw [he]at hD;exact nB (vz D1) (.inl hD) hK
abbrev kA(aM:Array Bool)(i:Nat):Bool:=aM.getD i false
structure DI (P:Program) (Fs:List HP) (w0:World) (all:Array Oper) (ro:Option Nat) (nt:NT) (a0:Act) (aM:Array Bool) (a:Act) (w:World)
  (rest:List Nat) (done:Nat) (log:List (Nat×List Nat)) (st:St) (ρ:Env) (W:List Wr):Prop where
 hw:HW Fs w0 st ρ w
 LJ:st.nt=nt
 act:a=ng a0 (W.filter fun x=>kA aM x.1)
 ha:HA st.fr nt ρ (ng a0 W)
 nd:(W.map (·.1)).Nodup
 done: ∀i,done.testBit i=true↔i∈W.map (·.1)
 rest: ∀i,i∈rest↔i<all.size∧i ∉ W.map (·.1)
 sub: ∀i,kA aM i=true→i∈W.map (·.1)
 Rj:aM.size=all.size
 X8: ∀p o,all[p]? =some o→kA aM p=true→∀e∈o.after,aq4 .any e=true→kA aM e.on=true
 Rk: ∀W1 x W2,W=W1++x::W2→∃o,all[x.1]? =some o∧x.2.1=o.dst∧∀e∈o.after,aq4 .any e=true→e.on∈W1.map (·.1)
 Rl: ∀W1 x W2,W=W1++x::W2→kA aM x.1=false→∃o rd hp bF,all[x.1]? =some o∧(x.1,rd)∈log∧Zl P all ro nt x.1 o x.2.2 (ng a0 W1) hp bF rd∧
  ∀j∈rd,∀ck,hp[j]? =some ck→∃Qq,st.hp[j]? =some Qq∧Qq.den ρ=ck.den bF
section eH
variable {ro:Option Nat} {nt:NT} {a0:Act} {aM:Array Bool} {a:Act} {w:World} {rest:List Nat} {done:Nat} {log:List (Nat×List Nat)} {st:St} {ρ:Env} {W:List Wr}
theorem DI.TQ(h:DI P Fs w0 all ro nt a0 aM a w rest done log st ρ W){A B:List Wr}(hW:W=A++B):
  ∀p o,all[p]? =some o→p∈A.map (·.1)→∀e∈o.after,aq4 .any e=true→e.on∈A.map (·.1):=by
 intro p o ho hp e he hb;obtain⟨y,hy,rfl⟩:=aqV.1 hp;obtain⟨A1,A2,rfl⟩:=List.append_of_mem hy;obtain⟨o',FV,_,AH⟩:=h.Rk A1 y (A2++B) (by rw [hW];simp);rw [ho]at FV;cases FV;have:=AH e he hb;rw [List.map_append];exact List.mem_append_left _ this
theorem DI.before(h:DI P Fs w0 all ro nt a0 aM a w rest done log st ρ W)(uk:lu all pm=true)(Bk:yX all pm=true){i:Nat}{o:Oper}(hi:all[i]? =some o)
  (pk: ∀e∈o.after,aq4 .any e=true→kA aM e.on=true) {W1 tail:List Wr} (hW:W=W1++tail) (Zm:i ∉ W1.map (·.1)) {s:Nat} (hs:s∈slotsOf all o∨o.dst=some s):
  ∀y∈W1,y.2.1=some s→kA aM y.1=true:=by
 intro y hy Io;obtain⟨A,B,rfl⟩:=List.append_of_mem hy;obtain⟨oy,U1,hdy,AH⟩:=h.Rk A y (B++tail) (by rw [hW];simp);have fg:y.1≠i:=fun e=>Zm (by rw [←e];simp)
 have Zn:y.1<all.size:=(aqw.1 U1).1;have DZ:i<all.size:=(aqw.1 hi).1;rcases si uk U1 hi (hdy▸Io) hs fg with hb | hb
 ·exact uj Bk (fun q=>kA aM q=true) h.X8 hi pk Zn hb
 ·have:=uj Bk (fun q=>q∈A.map (·.1)) (h.TQ (A:=A) (B:=y::(B++tail)) (by rw [hW];simp)) U1 AH DZ hb;exact absurd (by rw [List.map_append];exact List.mem_append_left _ this) Zm
theorem DI.behind(h:DI P Fs w0 all ro nt a0 aM a w rest done log st ρ W)(uk:lu all pm=true)(Bk:yX all pm=true){W1 W2:List Wr}{x:Wr}{o:Oper}(hi:all[x.1]? =some o)
  (tq:kA aM x.1=false) (hW:W=W1++x::W2) {s:Nat} (hs:s∈slotsOf all o∨o.dst=some s):
  ∀y∈W2,y.2.1=some s→kA aM y.1=false:=by
 intro y hy Io;obtain⟨A,B,rfl⟩:=List.append_of_mem hy;obtain⟨oy,U1,hdy,AH⟩:=h.Rk (W1++x::A) y B (by rw [hW];simp);obtain⟨ox,hox,_,Zo⟩:=h.Rk W1 x (A++y::B) hW;rw [hi]at hox;cases hox;have gV:=h.nd;rw [hW]at gV;simp only [List.map_append,aqP]at gV;rw [List.nodup_append]at gV;obtain⟨_,U2,U3⟩:=gV;have Zn:y.1<all.size:=(aqw.1 U1).1;have DZ:x.1<all.size:=(aqw.1 hi).1;have fg:y.1≠x.1:=fun e=>by
  have:=(List.nodup_cons.1 U2).1;exact this (by rw [←e];simp)
 rcases si uk U1 hi (hdy▸Io) hs fg with hb | hb
 ·have:=uj Bk (fun q=>q∈W1.map (·.1)) (h.TQ (A:=W1) (B:=x::(A++y::B)) hW) hi Zo Zn hb;exact absurd rfl (U3 _ this _ (by simp))
 ·cases hl:kA aM y.1 with
  | false=>rfl
  | true=>
   have:=Bi Bk (fun q=>kA aM q=true) h.X8 y.1 oy U1 hl x.1 DZ hb;rw [tq]at this;cases this
theorem wN{W1 tail:List Wr}{s:Nat}(h1: ∀y∈W1,y.2.1=some s→kA aM y.1=true)(h2: ∀y∈tail,y.2.1=some s→kA aM y.1=false):
  (ng a0 ((W1++tail).filter fun x=>kA aM x.1)).tmps.getD s undef=(ng a0 W1).tmps.getD s undef:=by
 rw [ru s _ a0 a0 rfl rfl,ru s W1 a0 a0 rfl rfl];have e2:(tail.filter fun x=>kA aM x.1).filter (fun x=>x.2.1==some s)=[]:=by
  rw [List.filter_filter,List.filter_eq_nil_iff];intro y hy hc;simp only [ai,beq_iff_eq]at hc;rw [h2 y hy hc.1]at hc;cases hc.2
 have e1:(W1.filter fun x=>kA aM x.1).filter (fun x=>x.2.1==some s)=W1.filter (fun x=>x.2.1==some s):=by
  rw [List.filter_filter];refine List.filter_congr fun y hy=>?_
  by_cases Io:y.2.1=some s
  ·rw [h1 y hy Io,Bool.and_true]
  ·have:(y.2.1==some s)=false:=by simpa using Io
   rw [this,Bool.false_and]
 rw [List.filter_append,List.filter_append,e1,e2,List.append_nil]
end eH
end
theorem wO(done i j:Nat):(done|||(1 <<< i)).testBit j=(done.testBit j||decide (i=j)):=by
 rw [Nat.testBit_or,Nat.one_shiftLeft,Nat.testBit_two_pow]
theorem po{α:Type}{W:List α}{x:α}{W1:List α}{y:α}{W2:List α}(h:W++[x]=W1++y::W2):(W2=[]∧y=x∧W1=W)∨∃J0,W2=J0++[x]∧W=W1++y::J0:=by
 rcases List.eq_nil_or_concat W2 with rfl | ⟨J0,z,rfl⟩
 ·left;have:=List.append_inj' h rfl;exact⟨rfl,by simpa using this.2.symm,this.1.symm⟩
 ·right;have h':W++[x]=(W1++y::J0)++[z]:=by rw [h];simp [List.concat_eq_append]
  have:=List.append_inj' h' rfl;have hz:x=z:=by simpa using this.2
  subst hz;exact⟨J0,by simp [List.concat_eq_append],this.1⟩
theorem D2{all:Array Oper}{done i:Nat}(h:mO all done i=true): ∃o,all[i]? =some o∧∀e∈o.after,aq4 .any e=true→done.testBit e.on=true:=by
 unfold mO at h;split at h
 ·rename_i o ho;refine⟨o,ho,fun e he hb=>?_⟩;have:=aqn.1 h e (by simpa using he);simpa [hb] using this
 ·cases h
theorem J1{all:Array Oper}{done i:Nat}{o:Oper}(ho:all[i]? =some o)(h: ∀e∈o.after,aq4 .any e=true→done.testBit e.on=true):mO all done i=true:=by
 unfold mO;simp only [ho];refine aqn.2 fun e he=>?_
 cases hb:aq4 .any e with
 | false=>rfl
 | true=>rw [h e (by simpa using he) hb];rfl
section
variable {P:Program} {C:Ctx} {al:Value→List HP→Prop} {Fs:List HP} {w0:World} {all:Array Oper} {pm:List Nat}
variable {ro:Option Nat} {nt:NT} {a0:Act} {aM:Array Bool} {a:Act} {w:World} {rest:List Nat} {done:Nat} {log:List (Nat×List Nat)} {st:St} {ρ:Env} {W:List Wr}
theorem DI.quiet(hT:bx P C.T=true)(h:DI P Fs w0 all ro nt a0 aM a w rest done log st ρ W){i:Nat}{o:Oper}(U4:i∈rest)(cN:mO all done i=true)(hi:all[i]? =some o)(xC:qB st o.dst=true)
  {g:Option BE} {res:gY} (hg:ry all (restrict st.fr (slotsOf all o)) st.known o=some g) (hgs:gsc st.aW g=true)
  (hr:D0 C g {st with fr:=restrict st.fr (slotsOf all o)} o=some res) (he:res.gZ= .none) (bY:nX ρ g=true→∀b∈res.vcs,b.prop ρ):
  DI P Fs w0 all ro nt a0 aM a w (rest.filter fun j=>j != i) (done|||(1 <<< i)) ((i,res.rd)::log)
   (({st with known:=B9 g res.vcs st.known}:St).put o.dst (J2 g res.val)) ρ
   (W++[(i,o.dst,if nX ρ g then res.val.val ρ else undef)]):=by
 have JZ:res.sc st.aW=true:=by
  rcases yY hr with⟨_,rfl⟩ | hr
  ·rfl
  ·exact(lX hr).2
 have TR:=JZ;simp only [gY.sc,ai,he,yZ.grow]at TR;obtain⟨⟨kx,xD⟩,_⟩:=TR;have TS:i ∉ W.map (·.1):=((h.rest i).1 U4).2;have tq:kA aM i=false:=by
  cases hl:kA aM i with
  | false=>rfl
  | true=>exact absurd (h.sub i hl) TS
 have hv:(if nX ρ g=true then res.val.val ρ else undef)=(J2 g res.val).val ρ:=by
  cases g with
  | none=>rfl
  | some c=>rfl
 have jt:(J2 g res.val).sc st.aW=true:=by
  cases g with
  | none=>exact kx
  | some c=>simp only [J2,SV.sc,ai];exact⟨hgs,kx⟩
 have xR:HW Fs w0 ({st with known:=B9 g res.vcs st.known}:St) ρ w:=by
  cases g with
  | some c=>exact h.hw
  | none=>
   refine⟨h.hw.lens,h.hw.lx,h.hw.gj,?_,fun b hb=>?_,h.hw.own,h.hw.same,h.hw.mw⟩
   ·show(more res.vcs st.known).all (BE.sc st.aW)=true;unfold more;rw [List.all_append,h.hw.ot,Bool.and_true];exact aqn.2 fun x hx=>aqn.1 xD x (aqL.1 hx).1
   ·exact(aqC.1 hb).elim (fun hm=>bY rfl b (aqL.1 hm).1) (h.hw.kn b)
 have e:=eI ({st with known:=B9 g res.vcs st.known}:St) o.dst (J2 g res.val);refine⟨xR.put jt,by rw [e.2.2.2.1];exact h.LJ,?_,?_,?_,?_,?_,?_,h.Rj,h.X8,?_,?_⟩
 ·rw [List.filter_append,List.filter_cons_of_neg (by simp [tq]),List.filter_nil,List.append_nil];exact h.act
 ·rw [jN,uh];refine HA.put h.ha (fun x hx=>?_) hv _ rfl;rw [←h.LJ];exact um xC x hx
 ·rw [List.map_append,List.nodup_append];exact⟨h.nd,by simp,fun x hx y hy=>by
   simp only [aqP,List.map_nil,aqx]at hy;subst hy;intro hxy;subst hxy;exact TS hx⟩
 ·intro j;rw [wO,Bool.or_eq_true,h.done,List.map_append,aqC];simp only [decide_eq_true_eq,aqP,List.map_nil,aqx];exact⟨fun hj=>hj.imp id Eq.symm,fun hj=>hj.imp id Eq.symm⟩
 ·intro j;rw [aqL,h.rest,List.map_append,aqC];simp only [bne_iff_ne,ne_eq,aqP,List.map_nil,aqx,not_or,and_assoc]
 ·intro j hj;rw [List.map_append];exact List.mem_append_left _ (h.sub j hj)
 ·intro W1 x W2 hW;rcases po hW with⟨rfl,rfl,rfl⟩ | ⟨J0,rfl,Rm⟩
  ·obtain⟨o',FV,AH⟩:=D2 cN;rw [hi]at FV;cases FV;exact⟨o,hi,rfl,fun e he hb=>(h.done _).1 (AH e he hb)⟩
  ·exact h.Rk W1 x J0 Rm
 ·intro W1 x W2 hW Gw;rcases po hW with⟨rfl,rfl,rfl⟩ | ⟨J0,rfl,Rm⟩
  ·refine⟨o,res.rd,st.hp,ρ,hi,aqr,?_,fun j _ ck DX=>⟨ck,by rw [e.1];exact DX,rfl⟩⟩;exact Gv hT hi hg hr he h.hw.kn h.hw.lens bY (h.ha)
  ·obtain⟨o',rd,hp,bF,h1,h2,h3,h4⟩:=h.Rl W1 x J0 Rm Gw;exact⟨o',rd,hp,bF,h1,aqv _ h2,h3,by rw [e.1];exact h4⟩
theorem xU{aM:Array Bool}{i j:Nat}(hi:i<aM.size):kA (aM.setIfInBounds i true) j=(decide (i=j)||kA aM j):=by
 unfold kA;by_cases h:i=j
 ·subst h;simp [Array.getElem?_setIfInBounds_self_of_lt hi]
 ·rw [getD_set_ne false h];simp [h]
theorem DI.pending(h:DI P Fs w0 all ro nt a0 aM a w rest done log st ρ W)(uk:lu all pm=true)(Bk:yX all pm=true){i:Nat}{o:Oper}(hi:all[i]? =some o)(tq:kA aM i=false)
  (pk: ∀e∈o.after,aq4 .any e=true→kA aM e.on=true) (TS:i∈W.map (·.1)) (Q:Exit→Act→World→Prop) (K:Act→World→Prop)
  (hK: ∀a',DI P Fs w0 all ro nt a0 (aM.setIfInBounds i true) a' w rest done log st ρ W→K a' w):wpOpIn (FW ro) 0 P all Q i K a w:=by
 obtain⟨x,hx,rfl⟩:=aqV.1 TS;obtain⟨W1,W2,hW⟩:=List.append_of_mem hx;obtain⟨o',rd,hp,bF,h1,h2,h3,h4⟩:=h.Rl W1 x W2 hW tq;rw [hi]at h1;cases h1;have gV:=h.nd;rw [hW]at gV;simp only [List.map_append,aqP]at gV;rw [List.nodup_append]at gV;obtain⟨aku,U2,U3⟩:=gV;have Zm:x.1 ∉ W1.map (·.1):=fun hc=>U3 _ hc _ aqr rfl
 have adP:x.1 ∉ W2.map (·.1):=(List.nodup_cons.1 U2).1;have DZ:x.1<aM.size:=by rw [h.Rj];exact(aqw.1 hi).1
 obtain⟨S,hS⟩:=h.hw.own;have xC:x.2.1=o.dst:=by
  obtain⟨o2,J3,hd2,_⟩:=h.Rk W1 x W2 hW;rw [hi]at J3;cases J3;exact hd2
 refine h3 a w S K Q (fun s hs=>?_) ?_ ?_ ?_ (hK _ ?_)
 ·rw [h.act,hW];refine wN (fun y hy Io=>h.before uk Bk hi pk hW Zm (.inl hs) y hy Io) fun y hy Io=>?_
  rcases List.mem_cons.1 hy with rfl | hy
  ·exact tq
  ·exact h.behind uk Bk hi tq hW (.inl hs) y hy Io
 ·rw [h.act,lq,lq]
 ·rw [h.act,oL,←oL W];exact h.ha.size
 ·intro j hj ck DX;obtain⟨Qq,JW,y0⟩:=h4 j hj ck DX;rw [←y0];exact y4 S hS rd j hj Qq JW
 ·have vA: ∀j,kA (aM.setIfInBounds x.1 true) j=(decide (x.1=j)||kA aM j):=fun j=>xU DZ
  refine⟨h.hw,h.LJ,?_,h.ha,h.nd,h.done,h.rest,fun j hj=>?_,by simp [h.Rj],fun p op Bl hp e he hb=>?_,h.Rk,fun A y B hWy hny=>?_⟩
  ·have f1:W1.filter (fun y=>kA (aM.setIfInBounds x.1 true) y.1)=W1.filter (fun y=>kA aM y.1):=List.filter_congr fun y hy=>by
    have:x.1≠y.1:=fun e=>Zm (by rw [e];exact aqV.2 ⟨y,hy,rfl⟩)
    rw [vA];simp [this]
   have f2:W2.filter (fun y=>kA (aM.setIfInBounds x.1 true) y.1)=W2.filter (fun y=>kA aM y.1):=List.filter_congr fun y hy=>by
    have:x.1≠y.1:=fun e=>adP (by rw [e];exact aqV.2 ⟨y,hy,rfl⟩)
    rw [vA];simp [this]
   rw [h.act,hW,List.filter_append,List.filter_append,f1,List.filter_cons_of_neg (by simp [tq]),List.filter_cons_of_pos (by rw [vA];simp),f2,jN,jN];have:x::W2.filter (fun y=>kA aM y.1)=[(x.1,x.2.1,x.2.2)]++W2.filter (fun y=>kA aM y.1):=rfl;rw [this,jN,uh,Bh,xC];intro y hy s hs Io;obtain⟨Q4,TN⟩:=aqL.1 hy;have:=h.behind uk Bk hi tq hW (.inr (xC▸hs)) y Q4 Io;rw [this]at TN;cases TN
  ·rw [vA,Bool.or_eq_true]at hj;rcases hj with hj | hj
   ·rw [←of_decide_eq_true hj];exact TS
   ·exact h.sub j hj
  ·rw [vA,Bool.or_eq_true]at hp ⊢;rcases hp with hp | hp
   ·have:=of_decide_eq_true hp;subst this;rw [hi]at Bl;cases Bl;exact .inr (pk e he hb)
   ·exact .inr (h.X8 p op Bl hp e he hb)
  ·rw [vA,Bool.or_eq_false_iff]at hny;exact h.Rl A y B hWy hny.2
end
end Go.RX
