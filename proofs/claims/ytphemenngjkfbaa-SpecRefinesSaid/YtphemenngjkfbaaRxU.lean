/- Executor. -/
import Derived.Test.YtphemenngjkfbaaM15
open Array renaming getD_eq_getD_getElem? → agS
open Bool renaming and_eq_true → ai
open Go.Sem renaming run_bind → agK, run_pure → ag0
open List renaming all_eq_true → agv, getElem?_append_left → agC, getElem?_eq_some_iff → agx, map_congr_left → ag4, map_cons → agW, mem_filter → agP
open Nat renaming blt_eq → agM
open Option renaming getD_some → ahe, map_eq_some_iff → agz
namespace Go.RX
section
variable {P:Program} {ρ bI:Env} {a:Act} {w:World} {fr:List (Nat×SV)} {nt:NT}
theorem od(d:Nat)(fr:List (Nat×SV))(s:Nat)(h:s≠d):look (fr.filter fun x=> !(x.1==d)) s=look fr s:=by
 induction fr with
 | nil=>rfl
 | cons x r ih=>
  obtain⟨t,v⟩:=x;by_cases ht:t=d
  ·subst ht;rw [List.filter_cons_of_neg (by simp),ih]
   conv=>rhs;unfold look
   rw [if_neg (by simp;exact Ne.symm h)]
  ·rw [List.filter_cons_of_pos (by simpa using ht)];unfold look;rw [ih]
theorem HA.put(h:HA fr nt ρ a){d:Option Nat}{v:SV}{u:Value}(hd: ∀x,d=some x→x<nt.n)(hv:u=v.val ρ)(st:St)(TS:st.fr=fr):
  HA (st.put d v).fr nt ρ (a.put d u):=by
 subst TS;cases d with
 | none=>exact h
 | some d=>
  have cZ:=hd d rfl;refine⟨h.defers,by simpa [Act.put] using h.size,fun s x hs=>?_⟩;simp only [St.put]at hs;unfold look at hs;split at hs
  ·rename_i IJ;rw [beq_iff_eq]at IJ;subst IJ;cases hs;have:=h.size;rw [←hv];simp only [Act.put];rw [agS,Array.getElem?_setIfInBounds_self_of_lt (by omega)];rfl
  ·rename_i IJ;have eJ:s≠d:=fun e=>IJ (by simp [e])
   rw [od d _ s eJ]at hs;have:=h.slots s x hs;rw [←this];simp only [Act.put];rw [agS,agS,Array.getElem?_setIfInBounds_ne (Ne.symm eJ)]
theorem eF(st:St)(d:Option Nat)(v:SV):(st.put d v).hp=st.hp∧(st.put d v).aS=st.aS∧(st.put d v).known=st.known∧(st.put d v).nt=st.nt∧(st.put d v).fn=st.fn:=by
 cases d<;>exact⟨rfl,rfl,rfl,rfl,rfl⟩
theorem WR{c:cF}{st:St}{d:Option Nat}{v:SV}(h:mH c st.fr=true)(hv:v.sc c=true):mH c (st.put d v).fr=true:=by
 cases d with
 | none=>exact h
 | some d=>
  simp only [St.put,mH,List.all_cons,ai];exact⟨hv,agv.2 fun x hx=>agv.1 h x (agP.1 hx).1⟩
variable {Fs:List HP} {w0:World}
theorem HW.put{st:St}(h:HW Fs w0 st ρ w){d:Option Nat}{v:SV}(hv:v.sc st.aS=true):HW Fs w0 (st.put d v) ρ w:=by
 obtain⟨e1,e2,e3,e4,_⟩:=eF st d v;refine⟨by rw [e2];exact h.lens,by rw [e2];exact WR h.lX hv,by rw [e1,e2];exact h.gF,by rw [e2,e3];exact h.oO,by rw [e3];exact h.kn,by rw [e1];exact h.own,h.same,by rw [e2,e4];exact h.mP⟩
theorem vA{c:cF}(eV:gy c ρ bI){ds:List MK}(h:ds.all (MK.sc c)=true):marks ρ ds=marks bI ds:=by
 unfold marks;congr 1;rw [List.flatMap_def,List.flatMap_def];congr 1;refine ag4 fun d hd=>?_
 have:=agv.1 h d hd;cases d<;>simp only [MK.sc,agM]at this<;>simp only [MK.blocks,eV.b _ this]
theorem HA.more(h:HA fr nt ρ a){c:cF}(jx:mH c fr=true)(UG:nt.ds.all (MK.sc c)=true)(eV:gy c ρ bI):HA fr nt bI a:=
 ⟨h.defers.trans (vA eV UG),h.size,fun s v hs=>by rw [h.slots s v hs];exact(SV.wU eV (EB jx hs)).1⟩
theorem HA.eval(h:HA fr nt ρ a):uZ ρ (look fr) a.eval:=
 ⟨fun s v hs=>h.slots s v hs,fun _=>rfl,fun _=>rfl⟩
theorem SV.TF{c:BE}(hc:c.den ρ=true)(v:SV):(v.J0 c).val ρ=v.val ρ:=by
 unfold SV.J0;split
 ·rename_i c' v;split
  ·rename_i he;subst he;rw [SV.val,if_pos hc]
  ·split
   ·split
    ·rename_i he;subst he;simp only [SV.val,BE.den,hc,Bool.true_and]
    ·rfl
   ·rfl
 ·split
  ·rename_i b hb;subst hb;simp only [SV.val,hc,BE.den]
  ·rfl
 ·rfl
theorem SV.QU{c:BE}(hc:c.den ρ=false)(v:SV):(v.sR c).val ρ=v.val ρ:=by
 unfold SV.sR;split
 ·rename_i c' v;split
  ·rename_i he;subst he;simp [SV.val,hc]
  ·split
   ·split
    ·rename_i he;subst he;simp [SV.val,BE.den,hc]
    ·rfl
   ·rfl
 ·split
  ·rename_i b hb;subst hb;simp only [SV.val,hc,BE.den]
  ·rfl
 ·rfl
theorem SV.TG{c:BE}{n:cF}{v:SV}(h:v.sc n=true):(v.sR c).sc n=true:=by
 unfold SV.sR;split
 ·rename_i c' v;split
  ·rfl
  ·split
   ·split
    ·rfl
    ·exact h
   ·exact h
 ·split
  ·rfl
  ·exact h
 ·exact h
theorem SV.WS{c:BE}{n:cF}{v:SV}(h:v.sc n=true):(v.J0 c).sc n=true:=by
 unfold SV.J0;split
 ·rename_i c' v;simp only [SV.sc,ai]at h;split
  ·exact h.2
  ·split
   ·split
    ·have h1:=h.1;simp only [BE.sc,ai]at h1;simp only [SV.sc,ai];exact⟨h1.2,h.2⟩
    ·simp only [SV.sc,ai];exact h
   ·simp only [SV.sc,ai];exact h
 ·split
  ·rfl
  ·exact h
 ·exact h
theorem HF{f:SV→SV}{fr:List (Nat×SV)}{s:Nat}{v:SV}(h:look (fr.map fun x=>(x.1,f x.2)) s=some v): ∃u,look fr s=some u∧v=f u:=by
 induction fr with
 | nil=>cases h
 | cons x r ih=>
  obtain⟨t,u⟩:=x;have h':(if t==s then some (f u)else look (r.map fun x=>(x.1,f x.2)) s)=some v:=h;show∃u',(if t==s then some u else look r s)=some u'∧v=f u';split at h'
  ·rename_i ht;cases h';exact⟨u,by rw [if_pos ht],rfl⟩
  ·rename_i ht;obtain⟨u',h1,h2⟩:=ih h';exact⟨u',by rw [if_neg ht];exact h1,h2⟩
theorem HA.J0{st:St}(h:HA st.fr nt ρ a){c:BE}(hc:c.den ρ=true):HA (st.J0 c).fr nt ρ a:=
 ⟨h.defers,h.size,fun s v hs=>by
  obtain⟨u,h1,rfl⟩:=HF (f:=SV.J0 c) hs;rw [SV.TF hc];exact h.slots s u h1⟩
theorem HA.sR{st:St}(h:HA st.fr nt ρ a){c:BE}(hc:c.den ρ=false):HA (st.sR c).fr nt ρ a:=
 ⟨h.defers,h.size,fun s v hs=>by
  obtain⟨u,h1,rfl⟩:=HF (f:=SV.sR c) hs;rw [SV.QU hc];exact h.slots s u h1⟩
theorem HA.Nr(h:HA fr nt ρ a){c:BE}(hc:c.den ρ=true):uZ ρ (under c (look fr)) a.eval:=by
 refine⟨fun s v hs=>?_,fun _=>rfl,fun _=>rfl⟩;unfold under at hs;split at hs
 ·rename_i c' v' hl;have:=h.slots s _ hl;split at hs
  ·rename_i he;subst he;cases hs;show a.tmps.getD s undef=_;rw [this,SV.val,if_pos hc]
  ·split at hs
   ·rename_i x y _;split at hs
    ·rename_i he;subst he;cases hs;show a.tmps.getD s undef=_;rw [this];simp only [SV.val,BE.den,hc,Bool.true_and]
    ·cases hs;exact this
   ·cases hs;exact this
 ·exact h.slots s v hs
theorem qc{b:BE}(h:b.sc {}=true)(ρ:Env):b.den ρ=b.den uk:=by
 have e:gy {} ρ {ρ with iv:=[],av:=[],bo:=[],bv:=[],vv:=[],pv:=[],lr:=[]}:=by
  constructor<;>first | rfl | (intro i hi;simp at hi)
 rw [BE.b_ e h];clear h e;have key: ∀(x:E) (j:Nat),x.den {ρ with iv:=[],av:=[],bo:=[],bv:=[],vv:=[],pv:=[],lr:=[]} j=x.den uk j:=by
  intro x
  induction x with
  | lit n=>intro j;rfl
  | var i=>intro j;rfl
  | aw i=>intro j;rfl
  | gW a i ha hi=>intro j;simp only [E.den,ha,hi]
  | bin o k a b ha hb=>intro j;simp only [E.den,ha,hb]
  | wrap k a ha=>intro j;simp only [E.den,ha]
  | bP a i v ha hi hv=>intro j;simp only [E.den,ha,hi,hv]
  | shift a o ha ho=>intro j;simp only [E.den,ha,ho]
  | Eg a o n b ha ho hn hb=>intro j;simp only [E.den,ha,ho,hn,hb]
  | rT b=>intro j;rfl
  | kc n a ha=>intro j;simp only [E.den];rw [ag4 fun i _=>ha i]
  | qw l=>intro j;rfl
  | RG a i ha hi=>intro j;simp only [E.den,qx,ha,hi]
  | qJ a i s ha hi hs=>intro j;simp only [E.den,FH,ha,hi,hs]
  | TJ s hs=>intro j;simp only [E.den,LA,hs]
 have acQ: ∀x:E,x.den {ρ with iv:=[],av:=[],bo:=[],bv:=[],vv:=[],pv:=[],lr:=[]}=x.den uk:=fun x=>funext (key x)
 induction b with
 | lit b=>rfl
 | var i=>rfl
 | eq a b=>simp only [BE.den,key]
 | lt a b=>simp only [BE.den,key]
 | le a b=>simp only [BE.den,key]
 | nz a=>simp only [BE.den,key]
 | TL n a b=>simp only [BE.den,key]
 | not a ih=>simp only [BE.den,ih]
 | and a b mV tS=>simp only [BE.den,mV,tS]
 | or a b mV tS=>simp only [BE.den,mV,tS]
 | ite c t e ihc Q_ Rb=>simp only [BE.den,ihc,Q_,Rb]
 | seq a b=>simp only [BE.den,acQ]
theorem oe{known:List BE}(hk: ∀b∈known,b.prop ρ)(b:BE):(sI known b).den ρ=b.den ρ:=by
 unfold sI;split
 ·rfl
 ·split
  ·rename_i hc;exact(qc hc ρ).symm
  split
  ·rename_i hc;have:=hk b (by simpa using hc);rw [←BE.cq]at this;rw [this];rfl
  ·split
   ·rename_i hc;have:=hk (iT b) (by simpa using hc);rw [←BE.cq,dG]at this;simp only [BE.den];cases hb:b.den ρ
    ·rfl
    ·rw [hb]at this;cases this
   ·rfl
theorem SV.Lo{known:List BE}(hk: ∀b∈known,b.prop ρ)(v:SV):(v.fix known).val ρ=v.val ρ:=by
 unfold SV.fix;split
 ·rename_i c v;have hd:=oe hk c;split
  ·rename_i e;rw [e]at hd;simp [SV.val,←hd,BE.den]
  ·rename_i e;rw [e]at hd;simp [SV.val,←hd,BE.den]
  ·rfl
 ·rename_i b;simp only [SV.val,oe hk b]
 ·rfl
theorem SV.QV{known:List BE}(hk: ∀b∈known,b.prop ρ){c:BE}(hc:c.den ρ=true)(v:SV):(v.WI c known).val ρ=v.val ρ:=by
 have key: ∀b:BE,known.contains (iT (B1 c b))=true→b.den ρ=false:=by
  intro b hb;have:=hk _ (by simpa using hb);rw [←BE.cq,dG,oX,hc]at this;simpa using this
 unfold SV.WI;split
 ·split
  ·rename_i b hb;simp only [SV.val,key b hb,BE.den]
  ·rfl
 ·split
  ·rename_i b v hb;simp [SV.val,key b hb]
  ·rfl
 ·rfl
theorem HA.wZ(h:HA fr nt ρ a){known:List BE}(hk: ∀b∈known,b.prop ρ){g:Option BE}(hg:oE ρ g=true):uZ ρ (Dx g known fr) a.eval:=by
 refine⟨fun s v hs=>?_,fun _=>rfl,fun _=>rfl⟩;cases g with
 | none=>
  simp only [Dx,agz]at hs;obtain⟨u,hu,rfl⟩:=hs;rw [SV.Lo hk];exact h.slots s u hu
 | some c=>
  simp only [Dx,agz]at hs;obtain⟨u,hu,rfl⟩:=hs;rw [SV.QV hk hg,SV.Lo hk];exact(HA.Nr h hg).1 s u hu
theorem qm(h:HA fr nt ρ a){known:List BE}(hk: ∀b∈known,b.prop ρ){x:Operand}{b:BE}(hc:J1 fr known x=some b):a.eval x= .bool (b.den ρ):=by
 unfold J1 at hc;split at hc
 ·rename_i b' he;cases hc;rw [fg h.eval he,oe hk];rfl
 ·cases hc
theorem wk{all:Array Oper}{tmps:Array Value}{j d:Nat}{oj:Oper}(hj:all[j]? =some oj)(hd:oj.dst=some d){b:Bool}(hv:tmps.getD d undef= .bool b):
  yielded all tmps j=some b:=by
 unfold yielded;simp only [hj,Option.bind_some,hd];rw [agS]at hv;cases ht:tmps[d]? with
 | none=>rw [ht]at hv;cases hv
 | some v=>
  rw [ht]at hv;simp only [ahe]at hv;subst hv;rfl
theorem oM{all:Array Oper}{tmps:Array Value}{j d:Nat}{oj:Oper}(hj:all[j]? =some oj)(hd:oj.dst=some d)(hv:tmps.getD d undef=undef):
  yielded all tmps j=none:=by
 unfold yielded;simp only [hj,Option.bind_some,hd];rw [agS]at hv;cases ht:tmps[d]? with
 | none=>rfl
 | some v=>
  rw [ht]at hv;simp only [ahe]at hv;subst hv;rfl
theorem tA(h:HA fr nt ρ a){all:Array Oper}{o:Oper}{g:Option BE}(hg:guardOf all fr o=some g):
  Region.wanted o (yielded all a.tmps)=oE ρ g:=by
 unfold guardOf at hg;split at hg
 ·rename_i hn;cases hg;simp [Region.wanted,hn,oE]
 ·rename_i j want hn;split at hg
  ·rename_i oj hj;split at hg
   ·rename_i d hd;split at hg
    ·rename_i b hl;cases hg;have:=wk hj hd (h.slots d _ hl);simp only [Region.wanted,hn,this,oE];cases want
     ·simp only [Bool.false_eq_true,if_false,dG];cases b.den ρ<;>rfl
     ·simp only [if_true];cases b.den ρ<;>rfl
    ·rename_i c b hl;cases hg;have h1:=h.slots d _ hl;simp only [SV.val]at h1;simp only [Region.wanted,hn,oE,oX];cases hc:c.den ρ with
     | true=>
      rw [hc,if_pos rfl]at h1;rw [wk hj hd h1];cases want
      ·simp only [Bool.false_eq_true,if_false,dG,Bool.true_and];cases b.den ρ<;>rfl
      ·simp only [if_true,Bool.true_and];cases b.den ρ<;>rfl
     | false=>
      rw [hc,if_neg (by simp)]at h1;rw [oM hj hd h1];rfl
    ·rename_i hl;cases hg;rw [Region.wanted,hn];simp only [oM hj hd (h.slots d _ hl),oE,BE.den];rfl
    ·rename_i c hl;cases hg;have h1:=h.slots d _ hl;simp only [SV.val,ite_self]at h1;rw [Region.wanted,hn];simp only [oM hj hd h1,oE,BE.den];rfl
    ·cases hg
   ·cases hg
  ·cases hg
theorem lx(h:HA fr nt ρ a){all:Array Oper}{known:List BE}(hk: ∀b∈known,b.prop ρ){o:Oper}{g:Option BE}(hg:si all fr known o=some g):
  Region.wanted o (yielded all a.tmps)=oE ρ g:=by
 unfold si at hg;split at hg
 ·rename_i b hb;rw [tA h hb];have hd:=oe hk b;split at hg
  ·rename_i he;cases hg;rw [he]at hd;exact hd.symm
  ·cases hg;exact hd.symm
 ·rw [tA h hg]
theorem zA{g:Option BE}{b:BE}(h:(Xd g b).prop ρ)(hg:oE ρ g=true):b.prop ρ:=by
 cases g with
 | none=>exact h
 | some c=>
  simp only [Xd,oE]at h hg;rw [←BE.cq,Kd,dG,hg]at h;rw [←BE.cq];simpa using h
theorem w7{b:BE}(h:b.sure=true)(ρ:Env):b.den ρ=true:=by
 simp only [BE.sure,ai]at h;rw [qc h.1];exact h.2
theorem iE{aq:Value→List HP→Prop}{g:Option BE}{known:List BE}{r:F}{L:Nat→LC}(hk: ∀b∈known,b.prop ρ): ∀{vcs:List BE},VC P aq (rP g vcs known r) ρ L→
  (oE ρ g=true→∀b∈vcs,b.prop ρ)∧VC P aq r ρ L
 | [],h=>⟨fun _ b hb=>(by cases hb),h⟩
 | b::bs,h=>by
  unfold rP at h;split at h
  ·rename_i hc;obtain⟨h1,h2⟩:=iE hk h;refine⟨fun hg x hx=>?_,h2⟩;rcases List.mem_cons.1 hx with rfl | hx
   ·rw [Bool.or_eq_true,Bool.or_eq_true]at hc;rcases hc with(hc | hc) | hc
    ·rw [beq_iff_eq]at hc;exact zA (by rw [hc];rfl) hg
    ·exact zA (hk _ (by simpa using hc)) hg
    ·exact zA ((BE.cq _ _).1 (w7 hc _)) hg
   ·exact h1 hg x hx
  ·simp only [VC,aE]at h;obtain⟨h1,h2⟩:=iE hk (h.2 h.1);refine⟨fun hg x hx=>?_,h2⟩;rcases List.mem_cons.1 hx with rfl | hx
   ·exact zA h.1 hg
   ·exact h1 hg x hx
theorem yF{look:Nat→Option SV}{α:Type}{f:α→Option SV}{g:α→Sem Value}(hf: ∀x v,f x=some v→(g x).run P w= .ok (v.val ρ) w): ∀(xs:List α) (vs:List SV),jV (xs.map f)=some vs→
  (xs.mapM g).run P w= .ok (SV.bQ ρ vs) w
 | [],vs,he=>by simp [jV]at he;subst he;simp [SV.bQ]
 | x::r,vs,he=>by
  simp only [agW]at he;cases hx:f x with
  | none=>rw [hx]at he;simp [jV]at he
  | some v=>
   rw [hx]at he;simp only [jV,agz]at he;obtain⟨rs,hrs,rfl⟩:=he;have:=yF (look:=look) hf r rs hrs;simp [List.mapM_cons,hf x v hx,this,SV.bQ]
def Lp(tmps:Array Value):ResultVar→Sem Value
 | .tmp t=>pure (tmps.getD t undef)
 | .cell c t=>do loadVar t (←asAddr (tmps.getD c undef))
theorem BN(fn:Func)(tmps:Array Value):results fn tmps=(do let vs←fn.results.mapM (Lp tmps);pure (if h:vs.size=1 then vs[0]else .tuple vs)):=by
 unfold results;congr 2
theorem qb{T:List TI}(hT:bC P T=true){st:St}(hw:HW Fs w0 st ρ w)(ha:HA st.fr nt ρ a){fn:Func}{v:SV}(hv:BD T st fn=some v):
  (results fn a.tmps).run P w= .ok (v.val ρ) w:=by
 obtain⟨S,hS⟩:=hw.own;have one: ∀(x:ResultVar) (u:SV),Fj T st x=some u→
   (Lp a.tmps x).run P w= .ok (u.val ρ) w:=by
  intro x u hx;unfold Lp;cases x with
  | tmp t=>
   have:=ha.slots t u hx;simp only [this,ag0]
  | cell c t=>
   simp only [Fj]at hx;split at hx
   ·rename_i ti y c9 hy;split at hx
    ·rename_i r hr;split at hx
     ·rename_i he;cases hx;obtain⟨rfl,hi⟩:=ay hT c9;have dp:Reads st.hp ρ w S r.rd:=by
       intro j _ ck hj;refine(hS.at_ j (ck.den ρ) ?_).1;rw [agC (by simpa using (agx.1 hj).1),List.getElem?_map,hj];rfl
      have h1:=(sZ hi hr dp (by rw [List.isEmpty_iff.1 he];intro b hb;cases hb)).1;have h2:=ha.slots c y hy;simp only [h2];unfold Instr.loadAt at h1;cases hval:y.val ρ with
      | pointer p=>
       cases p with
       | some ad=>
        rw [hval]at h1;simpa [Instr.sureAddr,asAddr] using h1
       | none=>rw [hval]at h1;simp [Instr.sureAddr]at h1
      | _=>rw [hval]at h1;simp [Instr.sureAddr]at h1
     ·cases hx
    ·cases hx
   ·cases hx
 unfold BD at hv;have key: ∀vs,jV (fn.results.toList.map (Fj T st))=some vs→
   (fn.results.mapM (Lp a.tmps)).run P w= .ok (SV.bQ ρ vs).toArray w:=by
  intro vs Kj;have:=yF (look:=fun _=>none) one _ vs Kj;rw [Array.mapM_eq_mapM_toList];simp [this]
 split at hv
 ·rename_i u hu;cases hv;have:=key _ hu;rw [BN];simp only [agK];rw [this];simp [SV.bQ]
 ·rename_i vs eJ Kj;cases hv;have:=key _ Kj;rw [BN];simp only [agK];rw [this];have hl:(SV.bQ ρ vs).length≠1:=by
   intro h1;have: ∀l:List SV,(SV.bQ ρ l).length=l.length:=by
    intro l;induction l with
    | nil=>rfl
    | cons x r ih=>simp [SV.bQ,ih]
   rw [this]at h1;obtain⟨x,rfl⟩:=List.length_eq_one_iff.1 h1;exact eJ x rfl
  simp [hl,SV.val]
 ·cases hv
end
end Go.RX
