/- Executor. -/
import Derived.Test.YtphemenngjkfbaaRxY
open Array renaming getD_eq_getD_getElem? → ad3, getElem?_eq_some_iff → adS
open Bool renaming and_eq_true → ai
open Go.Region renaming binds → aex
open List renaming all_eq_true → adI, append_nil → adW, map_cons → ad1, mem_append → aea, mem_cons_of_mem → adP, mem_cons_self → adN, mem_filter → ad7, mem_map → aeu, mem_range → adU, mem_singleton → aei
open Nat renaming blt_eq → adX
namespace Go.RX
abbrev Wr:=Nat×Option Nat×Value
def mA(a:Act)(W:List Wr):Act:=W.foldl (fun a x=>a.put x.2.1 x.2.2) a
theorem iR(a:Act)(x y:List Wr):mA a (x++y)=mA (mA a x) y:=List.foldl_append ..
theorem tG(a:Act)(i:Nat)(d:Option Nat)(v:Value):mA a [(i,d,v)]=a.put d v:=rfl
theorem tH(a:Act)(d:Option Nat)(v:Value):(a.put d v).tmps.size=a.tmps.size:=by cases d<;>simp [Act.put]
theorem put_defers(a:Act)(d:Option Nat)(v:Value):(a.put d v).defers=a.defers:=by cases d<;>rfl
theorem nT: ∀(W:List Wr) (a:Act),(mA a W).tmps.size=a.tmps.size
 | [],_=>rfl
 | x::r,a=>by
  show(mA (a.put x.2.1 x.2.2) r).tmps.size=_;rw [nT r,tH]
theorem kp: ∀(W:List Wr) (a:Act),(mA a W).defers=a.defers
 | [],_=>rfl
 | x::r,a=>by
  show(mA (a.put x.2.1 x.2.2) r).defers=_;rw [kp r,put_defers]
theorem uQ(a:Act)(d:Option Nat)(v:Value)(s:Nat)(h:d≠some s):(a.put d v).tmps.getD s undef=a.tmps.getD s undef:=by
 cases d with
 | none=>rfl
 | some d=>
  have:d≠s:=fun e=>h (by rw [e])
  simp only [Act.put];rw [ad3,ad3,Array.getElem?_setIfInBounds_ne this]
theorem yD(a:Act)(d:Nat)(v:Value)(h:d<a.tmps.size):(a.put (some d) v).tmps.getD d undef=v:=by
 simp only [Act.put];rw [ad3,Array.getElem?_setIfInBounds_self_of_lt h];rfl
theorem Mq(a b:Act)(d:Option Nat)(v:Value)(s:Nat)(hs:a.tmps.size=b.tmps.size)(h:a.tmps.getD s undef=b.tmps.getD s undef):
  (a.put d v).tmps.getD s undef=(b.put d v).tmps.getD s undef:=by
 by_cases hd:d=some s
 ·subst hd;by_cases cK:s<a.tmps.size
  ·rw [yD a s v cK,yD b s v (by omega)]
  ·simp only [Act.put];rw [ad3,ad3,Array.getElem?_eq_none (by simpa using cK),Array.getElem?_eq_none (by simp;omega)]
 ·rw [uQ a d v s hd,uQ b d v s hd,h]
theorem qM(s:Nat): ∀(W:List Wr) (a b:Act),a.tmps.size=b.tmps.size→a.tmps.getD s undef=b.tmps.getD s undef→
  (mA a W).tmps.getD s undef=(mA b (W.filter fun x=>x.2.1==some s)).tmps.getD s undef
 | [],a,b,_,h=>h
 | x::r,a,b,hs,h=>by
  show(mA (a.put x.2.1 x.2.2) r).tmps.getD s undef=_;by_cases hx:x.2.1=some s
  ·rw [List.filter_cons_of_pos (by simpa using hx)];show _=(mA (b.put x.2.1 x.2.2) _).tmps.getD s undef;exact qM s r _ _ (by rw [tH,tH,hs]) (Mq a b _ _ s hs h)
  ·rw [List.filter_cons_of_neg (by simpa using hx)];exact qM s r _ _ (by rw [tH,hs]) (by rw [uQ a _ _ s hx,h])
theorem put_comm(a:Act){d d':Option Nat}(v v':Value)(h: ∀s,d=some s→d'≠some s):(a.put d v).put d' v'=(a.put d' v').put d v:=by
 cases d with
 | none=>rfl
 | some d=>
  cases d' with
  | none=>rfl
  | some d'=>
   have:d≠d':=fun e=>h d rfl (by rw [e])
   simp only [Act.put];rw [Array.setIfInBounds_comm _ _ this]
theorem AV(d:Option Nat)(v:Value): ∀(W:List Wr) (a:Act),(∀x∈W,∀s,d=some s→x.2.1≠some s)→mA (a.put d v) W=(mA a W).put d v
 | [],_,_=>rfl
 | x::r,a,h=>by
  show mA ((a.put d v).put x.2.1 x.2.2) r=(mA (a.put x.2.1 x.2.2) r).put d v;rw [put_comm a v x.2.2 (h x adN)];exact AV d v r _ fun y hy=>h y (adP _ hy)
section order
variable {all:Array Oper} {pm:List Nat}
theorem uR(h:yE all pm=true){p:Nat}{o:Oper}(ho:all[p]? =some o):
  (∀e∈o.after,aex .any e=true→e.on<p)∧
  ∀q,q<all.size→(pm.getD p 0).testBit q=true→∃e∈o.after,aex .any e=true∧(q=e.on∨(pm.getD e.on 0).testBit q=true):=by
 have hp:p<all.size:=(adS.1 ho).1;have:=adI.1 h p (adU.2 hp);simp only [ho,ai]at this;refine⟨fun e he hb=>?_,fun q hq Mr=>?_⟩
 ·have h1:=adI.1 this.1 e (by simpa using he);simpa [hb,adX] using h1
 ·have h1:=adI.1 this.2 q (adU.2 hq);rw [Mr]at h1;simp only [Bool.not_true,Bool.false_or]at h1;obtain⟨e,he,h2⟩:=List.any_eq_true.1 h1;simp only [ai,Bool.or_eq_true,beq_iff_eq]at h2;exact⟨e,by simpa using he,h2.1,h2.2⟩
theorem AW(h:yE all pm=true)(X:Nat→Prop)(hX: ∀p o,all[p]? =some o→X p→∀e∈o.after,aex .any e=true→X e.on):
  ∀(p:Nat) (o:Oper),all[p]? =some o→X p→∀q,q<all.size→(pm.getD p 0).testBit q=true→X q:=by
 intro p
 induction p using Nat.strongRecOn with
 | _ p ih=>
  intro o ho hXp q hq Mr;obtain⟨h1,h2⟩:=uR h ho;obtain⟨e,he,hb,uv⟩:=h2 q hq Mr;have U9:=hX p o ho hXp e he hb;rcases uv with rfl | Mt
  ·exact U9
  ·have cK:=h1 e he hb;have hp:p<all.size:=(adS.1 ho).1;have Yz:all[e.on]? =some all[e.on]:=Array.getElem?_eq_getElem (by omega);exact ih e.on cK _ Yz U9 q hq Mt
theorem tI(h:yE all pm=true)(X:Nat→Prop)(hX: ∀p o,all[p]? =some o→X p→∀e∈o.after,aex .any e=true→X e.on)
  {p:Nat} {o:Oper} (ho:all[p]? =some o) (hr: ∀e∈o.after,aex .any e=true→X e.on) {q:Nat} (hq:q<all.size) (Mr:(pm.getD p 0).testBit q=true):X q:=by
 obtain⟨h1,h2⟩:=uR h ho;obtain⟨e,he,hb,uv⟩:=h2 q hq Mr;have U9:=hr e he hb;rcases uv with rfl | Mt
 ·exact U9
 ·have cK:=h1 e he hb;have hp:p<all.size:=(adS.1 ho).1;have Yz:all[e.on]? =some all[e.on]:=Array.getElem?_eq_getElem (by omega);exact AW h X hX e.on _ Yz U9 q hq Mt
theorem rJ(h:kq all pm=true){i j d:Nat}{oi oj:Oper}(hi:all[i]? =some oi)(hj:all[j]? =some oj)(hd:oi.dst=some d)
  (hs:d∈slotsOf all oj∨oj.dst=some d) (fc:i≠j):(pm.getD j 0).testBit i=true∨(pm.getD i 0).testBit j=true:=by
 have CZ:i<all.size:=(adS.1 hi).1;have Ud:j<all.size:=(adS.1 hj).1;have h1:=adI.1 h i (adU.2 CZ);simp only [hi,hd]at h1;have h2:=adI.1 h1 j (adU.2 Ud);simp only [hj,Bool.or_eq_true,beq_iff_eq,Bool.not_eq_true',Bool.or_eq_false_iff,beq_eq_false_iff_ne]at h2;rcases h2 with((h2 | h2) | h2) | h2
 ·exact absurd h2 fc
 ·rcases hs with hs | hs
  ·have:(slotsOf all oj).contains d=true:=by simpa using hs
   rw [this]at h2;cases h2.1
  ·exact absurd hs h2.2
 ·exact .inl h2
 ·exact .inr h2
end order
theorem uS{x:List (Nat×SV)}{f:Nat→Bool}{s:Nat}{v:SV}(h:look (x.filter fun y=>f y.1) s=some v):f s=true:=by
 induction x with
 | nil=>cases h
 | cons t r ih=>
  obtain⟨q,u⟩:=t;by_cases hf:f q=true
  ·rw [List.filter_cons_of_pos (by exact hf)]at h;unfold look at h;split at h
   ·rename_i hq;rw [beq_iff_eq]at hq;subst hq;exact hf
   ·exact ih h
  ·rw [List.filter_cons_of_neg (by exact hf)]at h;exact ih h
section
variable {P:Program} {C:Ctx} {ao:Value→List HP→Prop} {Fs:List HP} {w0:World} {all:Array Oper} {pm:List Nat}
def U_(P:Program)(all:Array Oper)(ro:Option Nat)(nt:NT)(i:Nat)(o:Oper)(v:Value)(base:Act)(hp:List Ck)(ρ:Env)(rd:List Nat):Prop:=
 ∀(a':Act) (w':World) (S:Nat→Nat→Prop) (K:Act→World→Prop) (Q:Exit→Act→World→Prop),(∀s∈slotsOf all o,a'.tmps.getD s undef=base.tmps.getD s undef)→a'.defers=base.defers→nt.n≤a'.tmps.size→
  Reads hp ρ w' S rd→K (a'.put o.dst v) w'→wpOpIn (FW ro) 0 P all Q i K a' w'
theorem vT{fr:List (Nat×SV)}{nt:NT}{ρ:Env}{base a':Act}{aV:List Nat}(h:HA fr nt ρ base)(hs: ∀s∈aV,a'.tmps.getD s undef=base.tmps.getD s undef)(hd:a'.defers=base.defers)(hn:nt.n≤a'.tmps.size):
  HA (restrict fr aV) nt ρ a':=by
 refine⟨hd.trans h.defers,hn,fun s v hl=>?_⟩;have h1:=lP (f:=fun q=>aV.contains q) hl;have h2:=uS (f:=fun q=>aV.contains q) hl;rw [hs s (by simpa using h2),h.aV s v h1]
theorem GA(hT:bw P C.T=true){ro:Option Nat}{nt:NT}{i:Nat}{o:Oper}(hi:all[i]? =some o){st:St}{ρ:Env}{base:Act}{g:Option BE}{res:gU}
  (hg:qN all (restrict st.fr (slotsOf all o)) st.known o=some g) (hr:D3 C g {st with fr:=restrict st.fr (slotsOf all o)} o=some res) (he:res.gJ= .none)
  (hk: ∀b∈st.known,b.prop ρ) (hl:gg ρ st.aQ) (cb:ns ρ g=true→∀b∈res.vcs,b.prop ρ) (ha:HA st.fr nt ρ base):
  U_ P all ro nt i o (if ns ρ g then res.val.val ρ else undef) base st.hp ρ res.rd:=by
 intro a' w' S K Q hs hd hn cU hK;have tJ:=vT ha hs hd hn;have lQ:=jY tJ hk hg;unfold wpOpIn;simp only [hi];rw [lQ];cases JX:ns ρ g with
 | false=>
  rw [if_neg (by simp)];rw [JX,if_neg (by simp)]at hK;exact⟨fun _ _=>trivial,hK⟩
 | true=>
  rw [if_pos rfl];rw [JX,if_pos rfl]at hK;have hr:oK C g {st with fr:=restrict st.fr (slotsOf all o)} o=some res:=by
   rcases yF hr with⟨rfl,_⟩ | hr
   ·cases JX
   ·exact hr
  obtain⟨D4,JY⟩:=kX hr;have tr:tj ρ (AX g st.known (restrict st.fr (slotsOf all o))) a'.eval:=tJ.uT hk JX;have hD:=qb (P:=P) hT (Env.ok ρ) tr D4 cU (cb JX) hl.b;unfold sV at hD;rw [he]at hD;exact mN (uU D4) (.inl hD) hK
abbrev jD(aN:Array Bool)(i:Nat):Bool:=aN.getD i false
structure DI (P:Program) (Fs:List HP) (w0:World) (all:Array Oper) (ro:Option Nat) (nt:NT) (a0:Act) (aN:Array Bool) (a:Act) (w:World)
  (rest:List Nat) (done:Nat) (log:List (Nat×List Nat)) (st:St) (ρ:Env) (W:List Wr):Prop where
 hw:HW Fs w0 st ρ w
 LB:st.nt=nt
 act:a=mA a0 (W.filter fun x=>jD aN x.1)
 ha:HA st.fr nt ρ (mA a0 W)
 nd:(W.map (·.1)).Nodup
 done: ∀i,done.testBit i=true↔i∈W.map (·.1)
 rest: ∀i,i∈rest↔i<all.size∧i ∉ W.map (·.1)
 sub: ∀i,jD aN i=true→i∈W.map (·.1)
 PO:aN.size=all.size
 Ue: ∀p o,all[p]? =some o→jD aN p=true→∀e∈o.after,aex .any e=true→jD aN e.on=true
 PQ: ∀W1 x W2,W=W1++x::W2→∃o,all[x.1]? =some o∧x.2.1=o.dst∧∀e∈o.after,aex .any e=true→e.on∈W1.map (·.1)
 PR: ∀W1 x W2,W=W1++x::W2→jD aN x.1=false→∃o rd hp bC,all[x.1]? =some o∧(x.1,rd)∈log∧U_ P all ro nt x.1 o x.2.2 (mA a0 W1) hp bC rd∧
  ∀j∈rd,∀ck,hp[j]? =some ck→∃O9,st.hp[j]? =some O9∧O9.den ρ=ck.den bC
section agree
variable {ro:Option Nat} {nt:NT} {a0:Act} {aN:Array Bool} {a:Act} {w:World} {rest:List Nat} {done:Nat} {log:List (Nat×List Nat)} {st:St} {ρ:Env} {W:List Wr}
theorem DI.Rj(h:DI P Fs w0 all ro nt a0 aN a w rest done log st ρ W){A B:List Wr}(hW:W=A++B):
  ∀p o,all[p]? =some o→p∈A.map (·.1)→∀e∈o.after,aex .any e=true→e.on∈A.map (·.1):=by
 intro p o ho hp e he hb;obtain⟨y,hy,rfl⟩:=aeu.1 hp;obtain⟨A1,A2,rfl⟩:=List.append_of_mem hy;obtain⟨o',LD,_,Al⟩:=h.PQ A1 y (A2++B) (by rw [hW];simp);rw [ho]at LD;cases LD;have:=Al e he hb;rw [List.map_append];exact List.mem_append_left _ this
theorem DI.before(h:DI P Fs w0 all ro nt a0 aN a w rest done log st ρ W)(tK:kq all pm=true)(AY:yE all pm=true){i:Nat}{o:Oper}(hi:all[i]? =some o)
  (oL: ∀e∈o.after,aex .any e=true→jD aN e.on=true) {W1 tail:List Wr} (hW:W=W1++tail) (Va:i ∉ W1.map (·.1)) {s:Nat} (hs:s∈slotsOf all o∨o.dst=some s):
  ∀y∈W1,y.2.1=some s→jD aN y.1=true:=by
 intro y hy Il;obtain⟨A,B,rfl⟩:=List.append_of_mem hy;obtain⟨oy,SF,YA,Al⟩:=h.PQ A y (B++tail) (by rw [hW];simp);have fc:y.1≠i:=fun e=>Va (by rw [←e];simp)
 have Uf:y.1<all.size:=(adS.1 SF).1;have CZ:i<all.size:=(adS.1 hi).1;rcases rJ tK SF hi (YA▸Il) hs fc with hb | hb
 ·exact tI AY (fun q=>jD aN q=true) h.Ue hi oL Uf hb
 ·have:=tI AY (fun q=>q∈A.map (·.1)) (h.Rj (A:=A) (B:=y::(B++tail)) (by rw [hW];simp)) SF Al CZ hb;exact absurd (by rw [List.map_append];exact List.mem_append_left _ this) Va
theorem DI.behind(h:DI P Fs w0 all ro nt a0 aN a w rest done log st ρ W)(tK:kq all pm=true)(AY:yE all pm=true){W1 W2:List Wr}{x:Wr}{o:Oper}(hi:all[x.1]? =some o)
  (sX:jD aN x.1=false) (hW:W=W1++x::W2) {s:Nat} (hs:s∈slotsOf all o∨o.dst=some s):
  ∀y∈W2,y.2.1=some s→jD aN y.1=false:=by
 intro y hy Il;obtain⟨A,B,rfl⟩:=List.append_of_mem hy;obtain⟨oy,SF,YA,Al⟩:=h.PQ (W1++x::A) y B (by rw [hW];simp);obtain⟨ox,hox,_,Vb⟩:=h.PQ W1 x (A++y::B) hW;rw [hi]at hox;cases hox;have fY:=h.nd;rw [hW]at fY;simp only [List.map_append,ad1]at fY;rw [List.nodup_append]at fY;obtain⟨_,SG,SH⟩:=fY;have Uf:y.1<all.size:=(adS.1 SF).1;have CZ:x.1<all.size:=(adS.1 hi).1;have fc:y.1≠x.1:=fun e=>by
  have:=(List.nodup_cons.1 SG).1;exact this (by rw [←e];simp)
 rcases rJ tK SF hi (YA▸Il) hs fc with hb | hb
 ·have:=tI AY (fun q=>q∈W1.map (·.1)) (h.Rj (A:=W1) (B:=x::(A++y::B)) hW) hi Vb Uf hb;exact absurd rfl (SH _ this _ (by simp))
 ·cases hl:jD aN y.1 with
  | false=>rfl
  | true=>
   have:=AW AY (fun q=>jD aN q=true) h.Ue y.1 oy SF hl x.1 CZ hb;rw [sX]at this;cases this
theorem vU{W1 tail:List Wr}{s:Nat}(h1: ∀y∈W1,y.2.1=some s→jD aN y.1=true)(h2: ∀y∈tail,y.2.1=some s→jD aN y.1=false):
  (mA a0 ((W1++tail).filter fun x=>jD aN x.1)).tmps.getD s undef=(mA a0 W1).tmps.getD s undef:=by
 rw [qM s _ a0 a0 rfl rfl,qM s W1 a0 a0 rfl rfl];have e2:(tail.filter fun x=>jD aN x.1).filter (fun x=>x.2.1==some s)=[]:=by
  rw [List.filter_filter,List.filter_eq_nil_iff];intro y hy hc;simp only [ai,beq_iff_eq]at hc;rw [h2 y hy hc.1]at hc;cases hc.2
 have e1:(W1.filter fun x=>jD aN x.1).filter (fun x=>x.2.1==some s)=W1.filter (fun x=>x.2.1==some s):=by
  rw [List.filter_filter];refine List.filter_congr fun y hy=>?_
  by_cases Il:y.2.1=some s
  ·rw [h1 y hy Il,Bool.and_true]
  ·have:(y.2.1==some s)=false:=by simpa using Il
   rw [this,Bool.false_and]
 rw [List.filter_append,List.filter_append,e1,e2,adW]
end agree
end
theorem vV(done i j:Nat):(done|||(1 <<< i)).testBit j=(done.testBit j||decide (i=j)):=by
 rw [Nat.testBit_or,Nat.one_shiftLeft,Nat.testBit_two_pow]
theorem oM{α:Type}{W:List α}{x:α}{W1:List α}{y:α}{W2:List α}(h:W++[x]=W1++y::W2):(W2=[]∧y=x∧W1=W)∨∃JZ,W2=JZ++[x]∧W=W1++y::JZ:=by
 rcases List.eq_nil_or_concat W2 with rfl | ⟨JZ,z,rfl⟩
 ·left;have:=List.append_inj' h rfl;exact⟨rfl,by simpa using this.2.symm,this.1.symm⟩
 ·right;have h':W++[x]=(W1++y::JZ)++[z]:=by rw [h];simp [List.concat_eq_append]
  have:=List.append_inj' h' rfl;have hz:x=z:=by simpa using this.2
  subst hz;exact⟨JZ,by simp [List.concat_eq_append],this.1⟩
theorem D5{all:Array Oper}{done i:Nat}(h:lR all done i=true): ∃o,all[i]? =some o∧∀e∈o.after,aex .any e=true→done.testBit e.on=true:=by
 unfold lR at h;split at h
 ·rename_i o ho;refine⟨o,ho,fun e he hb=>?_⟩;have:=adI.1 h e (by simpa using he);simpa [hb] using this
 ·cases h
theorem J0{all:Array Oper}{done i:Nat}{o:Oper}(ho:all[i]? =some o)(h: ∀e∈o.after,aex .any e=true→done.testBit e.on=true):lR all done i=true:=by
 unfold lR;simp only [ho];refine adI.2 fun e he=>?_
 cases hb:aex .any e with
 | false=>rfl
 | true=>rw [h e (by simpa using he) hb];rfl
section
variable {P:Program} {C:Ctx} {ao:Value→List HP→Prop} {Fs:List HP} {w0:World} {all:Array Oper} {pm:List Nat}
variable {ro:Option Nat} {nt:NT} {a0:Act} {aN:Array Bool} {a:Act} {w:World} {rest:List Nat} {done:Nat} {log:List (Nat×List Nat)} {st:St} {ρ:Env} {W:List Wr}
theorem DI.quiet(hT:bw P C.T=true)(h:DI P Fs w0 all ro nt a0 aN a w rest done log st ρ W){i:Nat}{o:Oper}(SI:i∈rest)(cU:lR all done i=true)(hi:all[i]? =some o)(wP:qc st o.dst=true)
  {g:Option BE} {res:gU} (hg:qN all (restrict st.fr (slotsOf all o)) st.known o=some g) (YB:gsc st.aQ g=true)
  (hr:D3 C g {st with fr:=restrict st.fr (slotsOf all o)} o=some res) (he:res.gJ= .none) (cb:ns ρ g=true→∀b∈res.vcs,b.prop ρ):
  DI P Fs w0 all ro nt a0 aN a w (rest.filter fun j=>j != i) (done|||(1 <<< i)) ((i,res.rd)::log)
   (({st with known:=BX g res.vcs st.known}:St).put o.dst (J1 g res.val)) ρ
   (W++[(i,o.dst,if ns ρ g then res.val.val ρ else undef)]):=by
 have JY:res.sc st.aQ=true:=by
  rcases yF hr with⟨_,rfl⟩ | hr
  ·rfl
  ·exact(kX hr).2
 have Rk:=JY;simp only [gU.sc,ai,he,Am.grow]at Rk;obtain⟨⟨je,tL⟩,_⟩:=Rk;have Rl:i ∉ W.map (·.1):=((h.rest i).1 SI).2;have sX:jD aN i=false:=by
  cases hl:jD aN i with
  | false=>rfl
  | true=>exact absurd (h.sub i hl) Rl
 have hv:(if ns ρ g=true then res.val.val ρ else undef)=(J1 g res.val).val ρ:=by
  cases g with
  | none=>rfl
  | some c=>rfl
 have iM:(J1 g res.val).sc st.aQ=true:=by
  cases g with
  | none=>exact je
  | some c=>simp only [J1,SV.sc,ai];exact⟨YB,je⟩
 have w_:HW Fs w0 ({st with known:=BX g res.vcs st.known}:St) ρ w:=by
  cases g with
  | some c=>exact h.hw
  | none=>
   refine⟨h.hw.lens,h.hw.kz,h.hw.fg,?_,fun b hb=>?_,h.hw.own,h.hw.same,h.hw.lu⟩
   ·show(more res.vcs st.known).all (BE.sc st.aQ)=true;unfold more;rw [List.all_append,h.hw.nE,Bool.and_true];exact adI.2 fun x hx=>adI.1 tL x (ad7.1 hx).1
   ·exact(aea.1 hb).elim (fun hm=>cb rfl b (ad7.1 hm).1) (h.hw.kn b)
 have e:=dU ({st with known:=BX g res.vcs st.known}:St) o.dst (J1 g res.val);refine⟨w_.put iM,by rw [e.2.2.2.1];exact h.LB,?_,?_,?_,?_,?_,?_,h.PO,h.Ue,?_,?_⟩
 ·rw [List.filter_append,List.filter_cons_of_neg (by simp [sX]),List.filter_nil,adW];exact h.act
 ·rw [iR,tG];refine HA.put h.ha (fun x hx=>?_) hv _ rfl;rw [←h.LB];exact tM wP x hx
 ·rw [List.map_append,List.nodup_append];exact⟨h.nd,by simp,fun x hx y hy=>by
   simp only [ad1,List.map_nil,aei]at hy;subst hy;intro Vc;subst Vc;exact Rl hx⟩
 ·intro j;rw [vV,Bool.or_eq_true,h.done,List.map_append,aea];simp only [decide_eq_true_eq,ad1,List.map_nil,aei];exact⟨fun hj=>hj.imp id Eq.symm,fun hj=>hj.imp id Eq.symm⟩
 ·intro j;rw [ad7,h.rest,List.map_append,aea];simp only [bne_iff_ne,ne_eq,ad1,List.map_nil,aei,not_or,and_assoc]
 ·intro j hj;rw [List.map_append];exact List.mem_append_left _ (h.sub j hj)
 ·intro W1 x W2 hW;rcases oM hW with⟨rfl,rfl,rfl⟩ | ⟨JZ,rfl,Ph⟩
  ·obtain⟨o',LD,Al⟩:=D5 cU;rw [hi]at LD;cases LD;exact⟨o,hi,rfl,fun e he hb=>(h.done _).1 (Al e he hb)⟩
  ·exact h.PQ W1 x JZ Ph
 ·intro W1 x W2 hW GB;rcases oM hW with⟨rfl,rfl,rfl⟩ | ⟨JZ,rfl,Ph⟩
  ·refine⟨o,res.rd,st.hp,ρ,hi,adN,?_,fun j _ ck Gx=>⟨ck,by rw [e.1];exact Gx,rfl⟩⟩;exact GA hT hi hg hr he h.hw.kn h.hw.lens cb (h.ha)
  ·obtain⟨o',rd,hp,bC,h1,h2,h3,h4⟩:=h.PR W1 x JZ Ph GB;exact⟨o',rd,hp,bC,h1,adP _ h2,h3,by rw [e.1];exact h4⟩
theorem xd{aN:Array Bool}{i j:Nat}(hi:i<aN.size):jD (aN.setIfInBounds i true) j=(decide (i=j)||jD aN j):=by
 unfold jD;by_cases h:i=j
 ·subst h;simp [Array.getElem?_setIfInBounds_self_of_lt hi]
 ·rw [getD_set_ne false h];simp [h]
theorem DI.pending(h:DI P Fs w0 all ro nt a0 aN a w rest done log st ρ W)(tK:kq all pm=true)(AY:yE all pm=true){i:Nat}{o:Oper}(hi:all[i]? =some o)(sX:jD aN i=false)
  (oL: ∀e∈o.after,aex .any e=true→jD aN e.on=true) (Rl:i∈W.map (·.1)) (Q:Exit→Act→World→Prop) (K:Act→World→Prop)
  (hK: ∀a',DI P Fs w0 all ro nt a0 (aN.setIfInBounds i true) a' w rest done log st ρ W→K a' w):wpOpIn (FW ro) 0 P all Q i K a w:=by
 obtain⟨x,hx,rfl⟩:=aeu.1 Rl;obtain⟨W1,W2,hW⟩:=List.append_of_mem hx;obtain⟨o',rd,hp,bC,h1,h2,h3,h4⟩:=h.PR W1 x W2 hW sX;rw [hi]at h1;cases h1;have fY:=h.nd;rw [hW]at fY;simp only [List.map_append,ad1]at fY;rw [List.nodup_append]at fY;obtain⟨abJ,SG,SH⟩:=fY;have Va:x.1 ∉ W1.map (·.1):=fun hc=>SH _ hc _ adN rfl
 have YC:x.1 ∉ W2.map (·.1):=(List.nodup_cons.1 SG).1;have CZ:x.1<aN.size:=by rw [h.PO];exact(adS.1 hi).1
 obtain⟨S,hS⟩:=h.hw.own;have wP:x.2.1=o.dst:=by
  obtain⟨o2,Xl,Xm,_⟩:=h.PQ W1 x W2 hW;rw [hi]at Xl;cases Xl;exact Xm
 refine h3 a w S K Q (fun s hs=>?_) ?_ ?_ ?_ (hK _ ?_)
 ·rw [h.act,hW];refine vU (fun y hy Il=>h.before tK AY hi oL hW Va (.inl hs) y hy Il) fun y hy Il=>?_
  rcases List.mem_cons.1 hy with rfl | hy
  ·exact sX
  ·exact h.behind tK AY hi sX hW (.inl hs) y hy Il
 ·rw [h.act,kp,kp]
 ·rw [h.act,nT,←nT W];exact h.ha.size
 ·intro j hj ck Gx;obtain⟨O9,JU,yG⟩:=h4 j hj ck Gx;rw [←yG];exact yH S hS rd j hj O9 JU
 ·have uV: ∀j,jD (aN.setIfInBounds x.1 true) j=(decide (x.1=j)||jD aN j):=fun j=>xd CZ
  refine⟨h.hw,h.LB,?_,h.ha,h.nd,h.done,h.rest,fun j hj=>?_,by simp [h.PO],fun p op FM hp e he hb=>?_,h.PQ,fun A y B hWy hny=>?_⟩
  ·have f1:W1.filter (fun y=>jD (aN.setIfInBounds x.1 true) y.1)=W1.filter (fun y=>jD aN y.1):=List.filter_congr fun y hy=>by
    have:x.1≠y.1:=fun e=>Va (by rw [e];exact aeu.2 ⟨y,hy,rfl⟩)
    rw [uV];simp [this]
   have f2:W2.filter (fun y=>jD (aN.setIfInBounds x.1 true) y.1)=W2.filter (fun y=>jD aN y.1):=List.filter_congr fun y hy=>by
    have:x.1≠y.1:=fun e=>YC (by rw [e];exact aeu.2 ⟨y,hy,rfl⟩)
    rw [uV];simp [this]
   rw [h.act,hW,List.filter_append,List.filter_append,f1,List.filter_cons_of_neg (by simp [sX]),List.filter_cons_of_pos (by rw [uV];simp),f2,iR,iR];have:x::W2.filter (fun y=>jD aN y.1)=[(x.1,x.2.1,x.2.2)]++W2.filter (fun y=>jD aN y.1):=rfl;rw [this,iR,tG,AV,wP];intro y hy s hs Il;obtain⟨Lx,Rf⟩:=ad7.1 hy;have:=h.behind tK AY hi sX hW (.inr (wP▸hs)) y Lx Il;rw [this]at Rf;cases Rf
  ·rw [uV,Bool.or_eq_true]at hj;rcases hj with hj | hj
   ·rw [←of_decide_eq_true hj];exact Rl
   ·exact h.sub j hj
  ·rw [uV,Bool.or_eq_true]at hp ⊢;rcases hp with hp | hp
   ·have:=of_decide_eq_true hp;subst this;rw [hi]at FM;cases FM;exact .inr (oL e he hb)
   ·exact .inr (h.Ue p op FM hp e he hb)
  ·rw [uV,Bool.or_eq_false_iff]at hny;exact h.PR A y B hWy hny.2
end
end Go.RX
