/- Executor. -/
import Derived.Test.YtmgbbbmdbpbeeaaRxY
open Array renaming getD_eq_getD_getElem? → adS, getElem?_eq_some_iff → adD
open Bool renaming and_eq_true → ai
open Go.Region renaming binds → aeg
open List renaming all_eq_true → adt, map_cons → adT, mem_cons → adW, mem_cons_of_mem → adB, mem_cons_self → ady, mem_filter → adU, mem_range → adZ, mem_singleton → aea
open Nat renaming blt_eq → adK
namespace Go.RX
abbrev Wr:=Nat×Option Nat×Value
def lD(a:Act)(W:List Wr):Act:=W.foldl (fun a x=>a.put x.2.1 x.2.2) a
theorem iz(a:Act)(x y:List Wr):lD a (x++y)=lD (lD a x) y:=List.foldl_append ..
theorem sx(a:Act)(i:Nat)(d:Option Nat)(v:Value):lD a [(i,d,v)]=a.put d v:=rfl
theorem sy(a:Act)(d:Option Nat)(v:Value):(a.put d v).tmps.size=a.tmps.size:=by cases d<;>simp [Act.put]
theorem put_defers(a:Act)(d:Option Nat)(v:Value):(a.put d v).defers=a.defers:=by cases d<;>rfl
theorem m6: ∀(W:List Wr) (a:Act),(lD a W).tmps.size=a.tmps.size
 | [],_=>rfl
 | x::r,a=>by
  show(lD (a.put x.2.1 x.2.2) r).tmps.size=_;rw [m6 r,sy]
theorem jZ: ∀(W:List Wr) (a:Act),(lD a W).defers=a.defers
 | [],_=>rfl
 | x::r,a=>by
  show(lD (a.put x.2.1 x.2.2) r).defers=_;rw [jZ r,put_defers]
theorem tN(a:Act)(d:Option Nat)(v:Value)(s:Nat)(h:d≠some s):(a.put d v).tmps.getD s undef=a.tmps.getD s undef:=by
 cases d with
 | none=>rfl
 | some d=>
  have:d≠s:=fun e=>h (by rw [e])
  simp only [Act.put];rw [adS,adS,Array.getElem?_setIfInBounds_ne this]
theorem xY(a:Act)(d:Nat)(v:Value)(h:d<a.tmps.size):(a.put (some d) v).tmps.getD d undef=v:=by
 simp only [Act.put];rw [adS,Array.getElem?_setIfInBounds_self_of_lt h];rfl
theorem LP(a b:Act)(d:Option Nat)(v:Value)(s:Nat)(hs:a.tmps.size=b.tmps.size)(h:a.tmps.getD s undef=b.tmps.getD s undef):
  (a.put d v).tmps.getD s undef=(b.put d v).tmps.getD s undef:=by
 by_cases hd:d=some s
 ·subst hd;by_cases bP:s<a.tmps.size
  ·rw [xY a s v bP,xY b s v (by omega)]
  ·simp only [Act.put];rw [adS,adS,Array.getElem?_eq_none (by simpa using bP),Array.getElem?_eq_none (by simp;omega)]
 ·rw [tN a d v s hd,tN b d v s hd,h]
theorem qa(s:Nat): ∀(W:List Wr) (a b:Act),a.tmps.size=b.tmps.size→a.tmps.getD s undef=b.tmps.getD s undef→
  (lD a W).tmps.getD s undef=(lD b (W.filter fun x=>x.2.1==some s)).tmps.getD s undef
 | [],a,b,_,h=>h
 | x::r,a,b,hs,h=>by
  show(lD (a.put x.2.1 x.2.2) r).tmps.getD s undef=_;by_cases hx:x.2.1=some s
  ·rw [List.filter_cons_of_pos (by simpa using hx)];show _=(lD (b.put x.2.1 x.2.2) _).tmps.getD s undef;exact qa s r _ _ (by rw [sy,sy,hs]) (LP a b _ _ s hs h)
  ·rw [List.filter_cons_of_neg (by simpa using hx)];exact qa s r _ _ (by rw [sy,hs]) (by rw [tN a _ _ s hx,h])
theorem put_comm(a:Act){d d':Option Nat}(v v':Value)(h: ∀s,d=some s→d'≠some s):(a.put d v).put d' v'=(a.put d' v').put d v:=by
 cases d with
 | none=>rfl
 | some d=>
  cases d' with
  | none=>rfl
  | some d'=>
   have:d≠d':=fun e=>h d rfl (by rw [e])
   simp only [Act.put];rw [Array.setIfInBounds_comm _ _ this]
theorem Av(d:Option Nat)(v:Value): ∀(W:List Wr) (a:Act),(∀x∈W,∀s,d=some s→x.2.1≠some s)→lD (a.put d v) W=(lD a W).put d v
 | [],_,_=>rfl
 | x::r,a,h=>by
  show lD ((a.put d v).put x.2.1 x.2.2) r=(lD (a.put x.2.1 x.2.2) r).put d v;rw [put_comm a v x.2.2 (h x ady)];exact Av d v r _ fun y hy=>h y (adB _ hy)
section order
variable {all:Array Oper} {pm:List Nat}
theorem tO(h:xZ all pm=true){p:Nat}{o:Oper}(ho:all[p]? =some o):
  (∀e∈o.after,aeg .any e=true→e.on<p)∧
  ∀q,q<all.size→(pm.getD p 0).testBit q=true→∃e∈o.after,aeg .any e=true∧(q=e.on∨(pm.getD e.on 0).testBit q=true):=by
 have hp:p<all.size:=(adD.1 ho).1;have:=adt.1 h p (adZ.2 hp);simp only [ho,ai]at this;refine⟨fun e he hb=>?_,fun q hq zk=>?_⟩
 ·have h1:=adt.1 this.1 e (by simpa using he);simpa [hb,adK] using h1
 ·have h1:=adt.1 this.2 q (adZ.2 hq);rw [zk]at h1;simp only [Bool.not_true,Bool.false_or]at h1;obtain⟨e,he,h2⟩:=List.any_eq_true.1 h1;simp only [ai,Bool.or_eq_true,beq_iff_eq]at h2;exact⟨e,by simpa using he,h2.1,h2.2⟩
theorem Aw(h:xZ all pm=true)(X:Nat→Prop)(hX: ∀p o,all[p]? =some o→X p→∀e∈o.after,aeg .any e=true→X e.on):
  ∀(p:Nat) (o:Oper),all[p]? =some o→X p→∀q,q<all.size→(pm.getD p 0).testBit q=true→X q:=by
 intro p
 induction p using Nat.strongRecOn with
 | _ p ih=>
  intro o ho hXp q hq zk;obtain⟨h1,h2⟩:=tO h ho;obtain⟨e,he,hb,ns⟩:=h2 q hq zk;have Uy:=hX p o ho hXp e he hb;rcases ns with rfl | LQ
  ·exact Uy
  ·have bP:=h1 e he hb;have hp:p<all.size:=(adD.1 ho).1;have Xq:all[e.on]? =some all[e.on]:=Array.getElem?_eq_getElem (by omega);exact ih e.on bP _ Xq Uy q hq LQ
theorem sA(h:xZ all pm=true)(X:Nat→Prop)(hX: ∀p o,all[p]? =some o→X p→∀e∈o.after,aeg .any e=true→X e.on)
  {p:Nat} {o:Oper} (ho:all[p]? =some o) (hr: ∀e∈o.after,aeg .any e=true→X e.on) {q:Nat} (hq:q<all.size) (zk:(pm.getD p 0).testBit q=true):X q:=by
 obtain⟨h1,h2⟩:=tO h ho;obtain⟨e,he,hb,ns⟩:=h2 q hq zk;have Uy:=hr e he hb;rcases ns with rfl | LQ
 ·exact Uy
 ·have bP:=h1 e he hb;have hp:p<all.size:=(adD.1 ho).1;have Xq:all[e.on]? =some all[e.on]:=Array.getElem?_eq_getElem (by omega);exact Aw h X hX e.on _ Xq Uy q hq LQ
theorem qJ(h:j1 all pm=true){i j d:Nat}{oi oj:Oper}(hi:all[i]? =some oi)(hj:all[j]? =some oj)(hd:oi.dst=some d)
  (hs:d∈slotsOf all oj∨oj.dst=some d) (dR:i≠j):(pm.getD j 0).testBit i=true∨(pm.getD i 0).testBit j=true:=by
 have Da:i<all.size:=(adD.1 hi).1;have Tw:j<all.size:=(adD.1 hj).1;have h1:=adt.1 h i (adZ.2 Da);simp only [hi,hd]at h1;have h2:=adt.1 h1 j (adZ.2 Tw);simp only [hj,Bool.or_eq_true,beq_iff_eq,Bool.not_eq_true',Bool.or_eq_false_iff,beq_eq_false_iff_ne]at h2;rcases h2 with((h2 | h2) | h2) | h2
 ·exact absurd h2 dR
 ·rcases hs with hs | hs
  ·have:(slotsOf all oj).contains d=true:=by simpa using hs
   rw [this]at h2;cases h2.1
  ·exact absurd hs h2.2
 ·exact .inl h2
 ·exact .inr h2
end order
theorem tP{x:List (Nat×SV)}{f:Nat→Bool}{s:Nat}{v:SV}(h:look (x.filter fun y=>f y.1) s=some v):f s=true:=by
 induction x with
 | nil=>cases h
 | cons t r ih=>
  obtain⟨q,u⟩:=t;by_cases hf:f q=true
  ·rw [List.filter_cons_of_pos (by exact hf)]at h;unfold look at h;split at h
   ·rename_i hq;rw [beq_iff_eq]at hq;subst hq;exact hf
   ·exact ih h
  ·rw [List.filter_cons_of_neg (by exact hf)]at h;exact ih h
section
variable {P:Program} {C:Ctx} {ax:Value→List HP→Prop} {Fs:List HP} {w0:World} {all:Array Oper} {pm:List Nat}
def Uz(P:Program)(all:Array Oper)(ro:Option Nat)(nt:NT)(i:Nat)(o:Oper)(v:Value)(base:Act)(hp:List Ck)(ρ:Env)(rd:List Nat):Prop:=
 ∀(a':Act) (w':World) (S:Nat→Nat→Prop) (K:Act→World→Prop) (Q:Exit→Act→World→Prop),(∀s∈slotsOf all o,a'.tmps.getD s undef=base.tmps.getD s undef)→a'.defers=base.defers→nt.n≤a'.tmps.size→
  Reads hp ρ w' S rd→K (a'.put o.dst v) w'→wpOpIn (FW ro) 0 P all Q i K a' w'
theorem uX{fr:List (Nat×SV)}{nt:NT}{ρ:Env}{base a':Act}{aV:List Nat}(h:HA fr nt ρ base)(hs: ∀s∈aV,a'.tmps.getD s undef=base.tmps.getD s undef)(hd:a'.defers=base.defers)(hn:nt.n≤a'.tmps.size):
  HA (restrict fr aV) nt ρ a':=by
 refine⟨hd.trans h.defers,hn,fun s v hl=>?_⟩;have h1:=lh (f:=fun q=>aV.contains q) hl;have h2:=tP (f:=fun q=>aV.contains q) hl;rw [hs s (by simpa using h2),h.aV s v h1]
theorem Gu(hT:bC P C.T=true){ro:Option Nat}{nt:NT}{i:Nat}{o:Oper}(hi:all[i]? =some o){st:St}{ρ:Env}{base:Act}{g:Option BE}{res:gx}
  (hg:qb all (restrict st.fr (slotsOf all o)) st.known o=some g) (hr:Ec C g {st with fr:=restrict st.fr (slotsOf all o)} o=some res) (he:res.gg= .none)
  (hk: ∀b∈st.known,b.prop ρ) (hl:fg ρ st.aX) (bV:mv ρ g=true→∀b∈res.vcs,b.prop ρ) (ha:HA st.fr nt ρ base):
  Uz P all ro nt i o (if mv ρ g then res.val.val ρ else undef) base st.hp ρ res.rd:=by
 intro a' w' S K Q hs hd hn cJ hK;have tQ:=uX ha hs hd hn;have ll:=jJ tQ hk hg;unfold wpOpIn;simp only [hi];rw [ll];cases JK:mv ρ g with
 | false=>
  rw [if_neg (by simp)];rw [JK,if_neg (by simp)]at hK;exact⟨fun _ _=>trivial,hK⟩
 | true=>
  rw [if_pos rfl];rw [JK,if_pos rfl]at hK;have hr:nS C g {st with fr:=restrict st.fr (slotsOf all o)} o=some res:=by
   rcases yd hr with⟨rfl,_⟩ | hr
   ·cases JK
   ·exact hr
  obtain⟨Ed,JL⟩:=kG hr;have se:r7 ρ (Ax g st.known (restrict st.fr (slotsOf all o))) a'.eval:=tQ.tR hk JK;have hD:=ph (P:=P) hT (Env.ok ρ) se Ed cJ (bV JK) hl.b;unfold Did at hD;rw [he]at hD;exact lQ (tS Ed) (.inl hD) hK
abbrev jq(aR:Array Bool)(i:Nat):Bool:=aR.getD i false
structure DI (P:Program) (Fs:List HP) (w0:World) (all:Array Oper) (ro:Option Nat) (nt:NT) (a0:Act) (aR:Array Bool) (a:Act) (w:World)
  (rest:List Nat) (done:Nat) (log:List (Nat×List Nat)) (st:St) (ρ:Env) (W:List Wr):Prop where
 hw:HW Fs w0 st ρ w
 BX:st.nt=nt
 act:a=lD a0 (W.filter fun x=>jq aR x.1)
 ha:HA st.fr nt ρ (lD a0 W)
 nd:(W.map (·.1)).Nodup
 done: ∀i,done.testBit i=true↔i∈W.map (·.1)
 rest: ∀i,i∈rest↔i<all.size∧i ∉ W.map (·.1)
 sub: ∀i,jq aR i=true→i∈W.map (·.1)
 Pa:aR.size=all.size
 Tx: ∀p o,all[p]? =some o→jq aR p=true→∀e∈o.after,aeg .any e=true→jq aR e.on=true
 Pb: ∀W1 x W2,W=W1++x::W2→∃o,all[x.1]? =some o∧x.2.1=o.dst∧∀e∈o.after,aeg .any e=true→e.on∈W1.map (·.1)
 Pc: ∀W1 x W2,W=W1++x::W2→jq aR x.1=false→∃o rd hp bE,all[x.1]? =some o∧(x.1,rd)∈log∧Uz P all ro nt x.1 o x.2.2 (lD a0 W1) hp bE rd∧
  ∀j∈rd,∀ck,hp[j]? =some ck→∃O9,st.hp[j]? =some O9∧O9.den ρ=ck.den bE
section agree
variable {ro:Option Nat} {nt:NT} {a0:Act} {aR:Array Bool} {a:Act} {w:World} {rest:List Nat} {done:Nat} {log:List (Nat×List Nat)} {st:St} {ρ:Env} {W:List Wr}
theorem DI.Q1(h:DI P Fs w0 all ro nt a0 aR a w rest done log st ρ W){A B:List Wr}(hW:W=A++B):
  ∀p o,all[p]? =some o→p∈A.map (·.1)→∀e∈o.after,aeg .any e=true→e.on∈A.map (·.1):=by
 intro p o ho hp e he hb;obtain⟨y,hy,rfl⟩:=List.mem_map.1 hp;obtain⟨A1,A2,rfl⟩:=List.append_of_mem hy;obtain⟨o',HY,_,zC⟩:=h.Pb A1 y (A2++B) (by rw [hW];simp);rw [ho]at HY;cases HY;have:=zC e he hb;rw [List.map_append];exact List.mem_append_left _ this
theorem DI.before(h:DI P Fs w0 all ro nt a0 aR a w rest done log st ρ W)(sB:j1 all pm=true)(Ay:xZ all pm=true){i:Nat}{o:Oper}(hi:all[i]? =some o)
  (nT: ∀e∈o.after,aeg .any e=true→jq aR e.on=true) {W1 tail:List Wr} (hW:W=W1++tail) (UA:i ∉ W1.map (·.1)) {s:Nat} (hs:s∈slotsOf all o∨o.dst=some s):
  ∀y∈W1,y.2.1=some s→jq aR y.1=true:=by
 intro y hy HZ;obtain⟨A,B,rfl⟩:=List.append_of_mem hy;obtain⟨oy,Sc,Xr,zC⟩:=h.Pb A y (B++tail) (by rw [hW];simp);have dR:y.1≠i:=fun e=>UA (by rw [←e];simp)
 have UB:y.1<all.size:=(adD.1 Sc).1;have Da:i<all.size:=(adD.1 hi).1;rcases qJ sB Sc hi (Xr▸HZ) hs dR with hb | hb
 ·exact sA Ay (fun q=>jq aR q=true) h.Tx hi nT UB hb
 ·have:=sA Ay (fun q=>q∈A.map (·.1)) (h.Q1 (A:=A) (B:=y::(B++tail)) (by rw [hW];simp)) Sc zC Da hb;exact absurd (by rw [List.map_append];exact List.mem_append_left _ this) UA
theorem DI.behind(h:DI P Fs w0 all ro nt a0 aR a w rest done log st ρ W)(sB:j1 all pm=true)(Ay:xZ all pm=true){W1 W2:List Wr}{x:Wr}{o:Oper}(hi:all[x.1]? =some o)
  (rJ:jq aR x.1=false) (hW:W=W1++x::W2) {s:Nat} (hs:s∈slotsOf all o∨o.dst=some s):
  ∀y∈W2,y.2.1=some s→jq aR y.1=false:=by
 intro y hy HZ;obtain⟨A,B,rfl⟩:=List.append_of_mem hy;obtain⟨oy,Sc,Xr,zC⟩:=h.Pb (W1++x::A) y B (by rw [hW];simp);obtain⟨ox,Zo,_,UC⟩:=h.Pb W1 x (A++y::B) hW;rw [hi]at Zo;cases Zo;have fQ:=h.nd;rw [hW]at fQ;simp only [List.map_append,adT]at fQ;rw [List.nodup_append]at fQ;obtain⟨_,Sd,Sf⟩:=fQ;have UB:y.1<all.size:=(adD.1 Sc).1;have Da:x.1<all.size:=(adD.1 hi).1;have dR:y.1≠x.1:=fun e=>by
  have:=(List.nodup_cons.1 Sd).1;exact this (by rw [←e];simp)
 rcases qJ sB Sc hi (Xr▸HZ) hs dR with hb | hb
 ·have:=sA Ay (fun q=>q∈W1.map (·.1)) (h.Q1 (A:=W1) (B:=x::(A++y::B)) hW) hi UC UB hb;exact absurd rfl (Sf _ this _ (by simp))
 ·cases hl:jq aR y.1 with
  | false=>rfl
  | true=>
   have:=Aw Ay (fun q=>jq aR q=true) h.Tx y.1 oy Sc hl x.1 Da hb;rw [rJ]at this;cases this
theorem uY{W1 tail:List Wr}{s:Nat}(h1: ∀y∈W1,y.2.1=some s→jq aR y.1=true)(h2: ∀y∈tail,y.2.1=some s→jq aR y.1=false):
  (lD a0 ((W1++tail).filter fun x=>jq aR x.1)).tmps.getD s undef=(lD a0 W1).tmps.getD s undef:=by
 rw [qa s _ a0 a0 rfl rfl,qa s W1 a0 a0 rfl rfl];have e2:(tail.filter fun x=>jq aR x.1).filter (fun x=>x.2.1==some s)=[]:=by
  rw [List.filter_filter,List.filter_eq_nil_iff];intro y hy hc;simp only [ai,beq_iff_eq]at hc;rw [h2 y hy hc.1]at hc;cases hc.2
 have e1:(W1.filter fun x=>jq aR x.1).filter (fun x=>x.2.1==some s)=W1.filter (fun x=>x.2.1==some s):=by
  rw [List.filter_filter];refine List.filter_congr fun y hy=>?_
  by_cases HZ:y.2.1=some s
  ·rw [h1 y hy HZ,Bool.and_true]
  ·have:(y.2.1==some s)=false:=by simpa using HZ
   rw [this,Bool.false_and]
 rw [List.filter_append,List.filter_append,e1,e2,List.append_nil]
end agree
end
theorem uZ(done i j:Nat):(done|||(1 <<< i)).testBit j=(done.testBit j||decide (i=j)):=by
 rw [Nat.testBit_or,Nat.one_shiftLeft,Nat.testBit_two_pow]
theorem nU{α:Type}{W:List α}{x:α}{W1:List α}{y:α}{W2:List α}(h:W++[x]=W1++y::W2):(W2=[]∧y=x∧W1=W)∨∃JM,W2=JM++[x]∧W=W1++y::JM:=by
 rcases List.eq_nil_or_concat W2 with rfl | ⟨JM,z,rfl⟩
 ·left;have:=List.append_inj' h rfl;exact⟨rfl,by simpa using this.2.symm,this.1.symm⟩
 ·right;have h':W++[x]=(W1++y::JM)++[z]:=by rw [h];simp [List.concat_eq_append]
  have:=List.append_inj' h' rfl;have hz:x=z:=by simpa using this.2
  subst hz;exact⟨JM,by simp [List.concat_eq_append],this.1⟩
theorem Ee{all:Array Oper}{done i:Nat}(h:ln all done i=true): ∃o,all[i]? =some o∧∀e∈o.after,aeg .any e=true→done.testBit e.on=true:=by
 unfold ln at h;split at h
 ·rename_i o ho;refine⟨o,ho,fun e he hb=>?_⟩;have:=adt.1 h e (by simpa using he);simpa [hb] using this
 ·cases h
theorem JN{all:Array Oper}{done i:Nat}{o:Oper}(ho:all[i]? =some o)(h: ∀e∈o.after,aeg .any e=true→done.testBit e.on=true):ln all done i=true:=by
 unfold ln;simp only [ho];refine adt.2 fun e he=>?_
 cases hb:aeg .any e with
 | false=>rfl
 | true=>rw [h e (by simpa using he) hb];rfl
section
variable {P:Program} {C:Ctx} {ax:Value→List HP→Prop} {Fs:List HP} {w0:World} {all:Array Oper} {pm:List Nat}
variable {ro:Option Nat} {nt:NT} {a0:Act} {aR:Array Bool} {a:Act} {w:World} {rest:List Nat} {done:Nat} {log:List (Nat×List Nat)} {st:St} {ρ:Env} {W:List Wr}
theorem DI.quiet(hT:bC P C.T=true)(h:DI P Fs w0 all ro nt a0 aR a w rest done log st ρ W){i:Nat}{o:Oper}(Sg:i∈rest)(cJ:ln all done i=true)(hi:all[i]? =some o)(vV:pj st o.dst=true)
  {g:Option BE} {res:gx} (hg:qb all (restrict st.fr (slotsOf all o)) st.known o=some g) (Xt:Zp st.aX g=true)
  (hr:Ec C g {st with fr:=restrict st.fr (slotsOf all o)} o=some res) (he:res.gg= .none) (bV:mv ρ g=true→∀b∈res.vcs,b.prop ρ):
  DI P Fs w0 all ro nt a0 aR a w (rest.filter fun j=>j != i) (done|||(1 <<< i)) ((i,res.rd)::log)
   (({st with known:=BY g res.vcs st.known}:St).put o.dst (JO g res.val)) ρ
   (W++[(i,o.dst,if mv ρ g then res.val.val ρ else undef)]):=by
 have JL:res.sc st.aX=true:=by
  rcases yd hr with⟨_,rfl⟩ | hr
  ·rfl
  ·exact(kG hr).2
 have Q2:=JL;simp only [gx.sc,ai,he,zD.grow]at Q2;obtain⟨⟨jT,vW⟩,_⟩:=Q2;have Q3:i ∉ W.map (·.1):=((h.rest i).1 Sg).2;have rJ:jq aR i=false:=by
  cases hl:jq aR i with
  | false=>rfl
  | true=>exact absurd (h.sub i hl) Q3
 have hv:(if mv ρ g=true then res.val.val ρ else undef)=(JO g res.val).val ρ:=by
  cases g with
  | none=>rfl
  | some c=>rfl
 have iA:(JO g res.val).sc st.aX=true:=by
  cases g with
  | none=>exact jT
  | some c=>simp only [JO,SV.sc,ai];exact⟨Xt,jT⟩
 have wv:HW Fs w0 ({st with known:=BY g res.vcs st.known}:St) ρ w:=by
  cases g with
  | some c=>exact h.hw
  | none=>
   refine⟨h.hw.lens,h.hw.j9,h.hw.fy,?_,fun b hb=>?_,h.hw.own,h.hw.same,h.hw.kP⟩
   ·show(more res.vcs st.known).all (BE.sc st.aX)=true;unfold more;rw [List.all_append,h.hw.mH,Bool.and_true];exact adt.2 fun x hx=>adt.1 vW x (adU.1 hx).1
   ·exact(List.mem_append.1 hb).elim (fun hm=>bV rfl b (adU.1 hm).1) (h.hw.kn b)
 have e:=dG ({st with known:=BY g res.vcs st.known}:St) o.dst (JO g res.val);refine⟨wv.put iA,by rw [e.2.2.2.1];exact h.BX,?_,?_,?_,?_,?_,?_,h.Pa,h.Tx,?_,?_⟩
 ·rw [List.filter_append,List.filter_cons_of_neg (by simp [rJ]),List.filter_nil,List.append_nil];exact h.act
 ·rw [iz,sx];refine HA.put h.ha (fun x hx=>?_) hv _ rfl;rw [←h.BX];exact sC vV x hx
 ·rw [List.map_append,List.nodup_append];exact⟨h.nd,by simp,fun x hx y hy=>by
   simp only [adT,List.map_nil,aea]at hy;subst hy;intro UD;subst UD;exact Q3 hx⟩
 ·intro j;rw [uZ,Bool.or_eq_true,h.done,List.map_append,List.mem_append];simp only [decide_eq_true_eq,adT,List.map_nil,aea];exact⟨fun hj=>hj.imp id Eq.symm,fun hj=>hj.imp id Eq.symm⟩
 ·intro j;rw [adU,h.rest,List.map_append,List.mem_append];simp only [bne_iff_ne,ne_eq,adT,List.map_nil,aea,not_or,and_assoc]
 ·intro j hj;rw [List.map_append];exact List.mem_append_left _ (h.sub j hj)
 ·intro W1 x W2 hW;rcases nU hW with⟨rfl,rfl,rfl⟩ | ⟨JM,rfl,OL⟩
  ·obtain⟨o',HY,zC⟩:=Ee cJ;rw [hi]at HY;cases HY;exact⟨o,hi,rfl,fun e he hb=>(h.done _).1 (zC e he hb)⟩
  ·exact h.Pb W1 x JM OL
 ·intro W1 x W2 hW Gv;rcases nU hW with⟨rfl,rfl,rfl⟩ | ⟨JM,rfl,OL⟩
  ·refine⟨o,res.rd,st.hp,ρ,hi,ady,?_,fun j _ ck KU=>⟨ck,by rw [e.1];exact KU,rfl⟩⟩;exact Gu hT hi hg hr he h.hw.kn h.hw.lens bV (h.ha)
  ·obtain⟨o',rd,hp,bE,h1,h2,h3,h4⟩:=h.Pc W1 x JM OL Gv;exact⟨o',rd,hp,bE,h1,adB _ h2,h3,by rw [e.1];exact h4⟩
theorem wB{aR:Array Bool}{i j:Nat}(hi:i<aR.size):jq (aR.setIfInBounds i true) j=(decide (i=j)||jq aR j):=by
 unfold jq;by_cases h:i=j
 ·subst h;simp [Array.getElem?_setIfInBounds_self_of_lt hi]
 ·rw [getD_set_ne false h];simp [h]
theorem DI.pending(h:DI P Fs w0 all ro nt a0 aR a w rest done log st ρ W)(sB:j1 all pm=true)(Ay:xZ all pm=true){i:Nat}{o:Oper}(hi:all[i]? =some o)(rJ:jq aR i=false)
  (nT: ∀e∈o.after,aeg .any e=true→jq aR e.on=true) (Q3:i∈W.map (·.1)) (Q:Exit→Act→World→Prop) (K:Act→World→Prop)
  (hK: ∀a',DI P Fs w0 all ro nt a0 (aR.setIfInBounds i true) a' w rest done log st ρ W→K a' w):wpOpIn (FW ro) 0 P all Q i K a w:=by
 obtain⟨x,hx,rfl⟩:=List.mem_map.1 Q3;obtain⟨W1,W2,hW⟩:=List.append_of_mem hx;obtain⟨o',rd,hp,bE,h1,h2,h3,h4⟩:=h.Pc W1 x W2 hW rJ;rw [hi]at h1;cases h1;have fQ:=h.nd;rw [hW]at fQ;simp only [List.map_append,adT]at fQ;rw [List.nodup_append]at fQ;obtain⟨aa_,Sd,Sf⟩:=fQ;have UA:x.1 ∉ W1.map (·.1):=fun hc=>Sf _ hc _ ady rfl
 have Xu:x.1 ∉ W2.map (·.1):=(List.nodup_cons.1 Sd).1;have Da:x.1<aR.size:=by rw [h.Pa];exact(adD.1 hi).1
 obtain⟨S,hS⟩:=h.hw.own;have vV:x.2.1=o.dst:=by
  obtain⟨o2,Wo,hd2,_⟩:=h.Pb W1 x W2 hW;rw [hi]at Wo;cases Wo;exact hd2
 refine h3 a w S K Q (fun s hs=>?_) ?_ ?_ ?_ (hK _ ?_)
 ·rw [h.act,hW];refine uY (fun y hy HZ=>h.before sB Ay hi nT hW UA (.inl hs) y hy HZ) fun y hy HZ=>?_
  rcases adW.1 hy with rfl | hy
  ·exact rJ
  ·exact h.behind sB Ay hi rJ hW (.inl hs) y hy HZ
 ·rw [h.act,jZ,jZ]
 ·rw [h.act,m6,←m6 W];exact h.ha.size
 ·intro j hj ck KU;obtain⟨O9,Si,ye⟩:=h4 j hj ck KU;rw [←ye];exact yf S hS rd j hj O9 Si
 ·have tT: ∀j,jq (aR.setIfInBounds x.1 true) j=(decide (x.1=j)||jq aR j):=fun j=>wB Da
  refine⟨h.hw,h.BX,?_,h.ha,h.nd,h.done,h.rest,fun j hj=>?_,by simp [h.Pa],fun p op hop hp e he hb=>?_,h.Pb,fun A y B hWy Zq=>?_⟩
  ·have f1:W1.filter (fun y=>jq (aR.setIfInBounds x.1 true) y.1)=W1.filter (fun y=>jq aR y.1):=List.filter_congr fun y hy=>by
    have:x.1≠y.1:=fun e=>UA (by rw [e];exact List.mem_map.2 ⟨y,hy,rfl⟩)
    rw [tT];simp [this]
   have f2:W2.filter (fun y=>jq (aR.setIfInBounds x.1 true) y.1)=W2.filter (fun y=>jq aR y.1):=List.filter_congr fun y hy=>by
    have:x.1≠y.1:=fun e=>Xu (by rw [e];exact List.mem_map.2 ⟨y,hy,rfl⟩)
    rw [tT];simp [this]
   rw [h.act,hW,List.filter_append,List.filter_append,f1,List.filter_cons_of_neg (by simp [rJ]),List.filter_cons_of_pos (by rw [tT];simp),f2,iz,iz];have:x::W2.filter (fun y=>jq aR y.1)=[(x.1,x.2.1,x.2.2)]++W2.filter (fun y=>jq aR y.1):=rfl;rw [this,iz,sx,Av,vV];intro y hy s hs HZ;obtain⟨OZ,QW⟩:=adU.1 hy;have:=h.behind sB Ay hi rJ hW (.inr (vV▸hs)) y OZ HZ;rw [this]at QW;cases QW
  ·rw [tT,Bool.or_eq_true]at hj;rcases hj with hj | hj
   ·rw [←of_decide_eq_true hj];exact Q3
   ·exact h.sub j hj
  ·rw [tT,Bool.or_eq_true]at hp ⊢;rcases hp with hp | hp
   ·have:=of_decide_eq_true hp;subst this;rw [hi]at hop;cases hop;exact .inr (nT e he hb)
   ·exact .inr (h.Tx p op hop hp e he hb)
  ·rw [tT,Bool.or_eq_false_iff]at Zq;exact h.Pc A y B hWy Zq.2
end
end Go.RX
