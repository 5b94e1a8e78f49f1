/- Executor. -/
import Derived.Test.YtllcdnkfbeokhaaGreatM16
open Array renaming getD_eq_getD_getElem? → auQ
open Bool renaming and_eq_true → ai
open Go.Sem renaming run_bind → auC, run_pure → auI
open List renaming all_eq_true → auo, getElem?_append_left → auu, getElem?_eq_some_iff → aup, map_cons → auK, mem_filter → auR
open Nat renaming blt_eq → auF
open Option renaming getD_some → au8, map_eq_some_iff → aus
namespace Go.RX
section
variable {P:Program} {ρ bJ:Env} {a:Act} {w:World} {fr:List (Nat×SV)} {nt:NT}
theorem oF(d:Nat)(fr:List (Nat×SV))(s:Nat)(h:s≠d):look (fr.filter fun x=> !(x.1==d)) s=look fr s:=by
 induction fr with
 | nil=>rfl
 | cons x r ih=>
  obtain⟨t,v⟩:=x;by_cases ht:t=d
  ·subst ht;rw [List.filter_cons_of_neg (by simp),ih]
   conv=>rhs;unfold look
   rw [if_neg (by simp;exact Ne.symm h)]
  ·rw [List.filter_cons_of_pos (by simpa using ht)];unfold look;rw [ih]
theorem HA.put(h:HA fr nt ρ a){d:Option Nat}{v:SV}{u:Value}(hd: ∀x,d=some x→x<nt.n)(hv:u=v.val ρ)(st:St)(XD:st.fr=fr):
  HA (st.put d v).fr nt ρ (a.put d u):=by
 subst XD;cases d with
 | none=>exact h
 | some d=>
  have cF:=hd d rfl;refine⟨h.defers,by simpa [Act.put] using h.size,fun s x hs=>?_⟩;simp only [St.put]at hs;unfold look at hs;split at hs
  ·rename_i O5;rw [beq_iff_eq]at O5;subst O5;cases hs;have:=h.size;rw [←hv];simp only [Act.put];rw [auQ,Array.getElem?_setIfInBounds_self_of_lt (by omega)];rfl
  ·rename_i O5;have fy:s≠d:=fun e=>O5 (by simp [e])
   rw [oF d _ s fy]at hs;have:=h.aX s x hs;rw [←this];simp only [Act.put];rw [auQ,auQ,Array.getElem?_setIfInBounds_ne (Ne.symm fy)]
theorem fb(st:St)(d:Option Nat)(v:SV):(st.put d v).hp=st.hp∧(st.put d v).a_=st.a_∧(st.put d v).known=st.known∧(st.put d v).nt=st.nt∧(st.put d v).fn=st.fn:=by
 cases d<;>exact⟨rfl,rfl,rfl,rfl,rfl⟩
theorem abJ{c:cG}{st:St}{d:Option Nat}{v:SV}(h:mP c st.fr=true)(hv:v.sc c=true):mP c (st.put d v).fr=true:=by
 cases d with
 | none=>exact h
 | some d=>
  simp only [St.put,mP,List.all_cons,ai];exact⟨hv,auo.2 fun x hx=>auo.1 h x (auR.1 hx).1⟩
variable {Fs:List HP} {w0:World}
theorem HW.put{st:St}(h:HW Fs w0 st ρ w){d:Option Nat}{v:SV}(hv:v.sc st.a_=true):HW Fs w0 (st.put d v) ρ w:=by
 obtain⟨e1,e2,e3,e4,_⟩:=fb st d v;refine⟨by rw [e2];exact h.lens,by rw [e2];exact abJ h.mj hv,by rw [e1,e2];exact h.gP,by rw [e2,e3];exact h.o9,by rw [e3];exact h.kn,by rw [e1];exact h.own,h.same,by rw [e2,e4];exact h.ng⟩
theorem vL{c:cG}(fA:iF c ρ bJ){ds:List MK}(h:ds.all (MK.sc c)=true):marks ρ ds=marks bJ ds:=by
 unfold marks;congr 1;rw [List.flatMap_def,List.flatMap_def];congr 1;refine List.map_congr_left fun d hd=>?_
 have:=auo.1 h d hd;cases d<;>simp only [MK.sc,auF]at this<;>simp only [MK.blocks,fA.b _ this]
theorem HA.more(h:HA fr nt ρ a){c:cG}(jM:mP c fr=true)(Oe:nt.ds.all (MK.sc c)=true)(fA:iF c ρ bJ):HA fr nt bJ a:=
 ⟨h.defers.trans (vL fA Oe),h.size,fun s v hs=>by rw [h.aX s v hs];exact(SV.wY fA (DU jM hs)).1⟩
theorem HA.eval(h:HA fr nt ρ a):vm ρ (look fr) a.eval:=
 ⟨fun s v hs=>h.aX s v hs,fun _=>rfl,fun _=>rfl⟩
theorem SV.Xp{c:BE}(hc:c.den ρ=true)(v:SV):(v.Kb c).val ρ=v.val ρ:=by
 unfold SV.Kb;split
 ·rename_i c' v;split
  ·rename_i he;subst he;rw [SV.val,if_pos hc]
  ·split
   ·split
    ·rename_i he;subst he;simp only [SV.val,BE.den,hc,Bool.true_and]
    ·rfl
   ·rfl
 ·split
  ·rename_i b hb;subst hb;simp only [SV.val,hc,BE.den]
  ·rfl
 ·rfl
theorem SV.Tu{c:BE}(hc:c.den ρ=false)(v:SV):(v.tj c).val ρ=v.val ρ:=by
 unfold SV.tj;split
 ·rename_i c' v;split
  ·rename_i he;subst he;simp [SV.val,hc]
  ·split
   ·split
    ·rename_i he;subst he;simp [SV.val,BE.den,hc]
    ·rfl
   ·rfl
 ·split
  ·rename_i b hb;subst hb;simp only [SV.val,hc,BE.den]
  ·rfl
 ·rfl
theorem SV.Xq{c:BE}{n:cG}{v:SV}(h:v.sc n=true):(v.tj c).sc n=true:=by
 unfold SV.tj;split
 ·rename_i c' v;split
  ·rfl
  ·split
   ·split
    ·rfl
    ·exact h
   ·exact h
 ·split
  ·rfl
  ·exact h
 ·exact h
theorem SV.abK{c:BE}{n:cG}{v:SV}(h:v.sc n=true):(v.Kb c).sc n=true:=by
 unfold SV.Kb;split
 ·rename_i c' v;simp only [SV.sc,ai]at h;split
  ·exact h.2
  ·split
   ·split
    ·have h1:=h.1;simp only [BE.sc,ai]at h1;simp only [SV.sc,ai];exact⟨h1.2,h.2⟩
    ·simp only [SV.sc,ai];exact h
   ·simp only [SV.sc,ai];exact h
 ·split
  ·rfl
  ·exact h
 ·exact h
theorem HZ{f:SV→SV}{fr:List (Nat×SV)}{s:Nat}{v:SV}(h:look (fr.map fun x=>(x.1,f x.2)) s=some v): ∃u,look fr s=some u∧v=f u:=by
 induction fr with
 | nil=>cases h
 | cons x r ih=>
  obtain⟨t,u⟩:=x;have h':(if t==s then some (f u)else look (r.map fun x=>(x.1,f x.2)) s)=some v:=h;show∃u',(if t==s then some u else look r s)=some u'∧v=f u';split at h'
  ·rename_i ht;cases h';exact⟨u,by rw [if_pos ht],rfl⟩
  ·rename_i ht;obtain⟨u',h1,h2⟩:=ih h';exact⟨u',by rw [if_neg ht];exact h1,h2⟩
theorem HA.Kb{st:St}(h:HA st.fr nt ρ a){c:BE}(hc:c.den ρ=true):HA (st.Kb c).fr nt ρ a:=
 ⟨h.defers,h.size,fun s v hs=>by
  obtain⟨u,h1,rfl⟩:=HZ (f:=SV.Kb c) hs;rw [SV.Xp hc];exact h.aX s u h1⟩
theorem HA.tj{st:St}(h:HA st.fr nt ρ a){c:BE}(hc:c.den ρ=false):HA (st.tj c).fr nt ρ a:=
 ⟨h.defers,h.size,fun s v hs=>by
  obtain⟨u,h1,rfl⟩:=HZ (f:=SV.tj c) hs;rw [SV.Tu hc];exact h.aX s u h1⟩
theorem HA.OQ(h:HA fr nt ρ a){c:BE}(hc:c.den ρ=true):vm ρ (under c (look fr)) a.eval:=by
 refine⟨fun s v hs=>?_,fun _=>rfl,fun _=>rfl⟩;unfold under at hs;split at hs
 ·rename_i c' v' hl;have:=h.aX s _ hl;split at hs
  ·rename_i he;subst he;cases hs;show a.tmps.getD s undef=_;rw [this,SV.val,if_pos hc]
  ·split at hs
   ·rename_i x y _;split at hs
    ·rename_i he;subst he;cases hs;show a.tmps.getD s undef=_;rw [this];simp only [SV.val,BE.den,hc,Bool.true_and]
    ·cases hs;exact this
   ·cases hs;exact this
 ·exact h.aX s v hs
theorem lJ{b:BE}(h:b.sc {}=true)(ρ:Env):b.den ρ=b.den Ay:=by
 have e:iF {} ρ {ρ with iv:=[],av:=[],bo:=[],bv:=[],vv:=[],pv:=[],lr:=[]}:=by
  constructor<;>first | rfl | (intro i hi;simp at hi)
 rw [BE.bU e h];clear h e;have key: ∀(x:E) (j:Nat),x.den {ρ with iv:=[],av:=[],bo:=[],bv:=[],vv:=[],pv:=[],lr:=[]} j=x.den Ay j:=by
  intro x
  induction x with
  | lit n=>intro j;rfl
  | var i=>intro j;rfl
  | cU i=>intro j;rfl
  | TN a i ha hi=>intro j;simp only [E.den,ha,hi]
  | bin o k a b ha hb=>intro j;simp only [E.den,ha,hb]
  | wrap k a ha=>intro j;simp only [E.den,ha]
  | nm a i v ha hi hv=>intro j;simp only [E.den,ha,hi,hv]
  | shift a o ha ho=>intro j;simp only [E.den,ha,ho]
  | jI a o n b ha ho hn hb=>intro j;simp only [E.den,ha,ho,hn,hb]
  | tS b=>intro j;rfl
  | kc n a ha=>intro j;simp only [E.den];rw [List.map_congr_left fun i _=>ha i]
  | qV l=>intro j;rfl
  | Un a i ha hi=>intro j;simp only [E.den,qW,ha,hi]
  | ry a i s ha hi hs=>intro j;simp only [E.den,FI,ha,hi,hs]
  | Xu s hs=>intro j;simp only [E.den,Mj,hs]
 have ama: ∀x:E,x.den {ρ with iv:=[],av:=[],bo:=[],bv:=[],vv:=[],pv:=[],lr:=[]}=x.den Ay:=fun x=>funext (key x)
 induction b with
 | lit b=>rfl
 | var i=>rfl
 | eq a b=>simp only [BE.den,key]
 | lt a b=>simp only [BE.den,key]
 | le a b=>simp only [BE.den,key]
 | nz a=>simp only [BE.den,key]
 | Xv n a b=>simp only [BE.den,key]
 | not a ih=>simp only [BE.den,ih]
 | and a b mr rz=>simp only [BE.den,mr,rz]
 | or a b mr rz=>simp only [BE.den,mr,rz]
 | ite c t e ihc H9 H_=>simp only [BE.den,ihc,H9,H_]
 | seq a b=>simp only [BE.den,ama]
 | DA i=>rfl
theorem oG{known:List BE}(hk: ∀b∈known,b.prop ρ)(b:BE):(sY known b).den ρ=b.den ρ:=by
 unfold sY;split
 ·rfl
 ·split
  ·rename_i hc;exact(lJ hc ρ).symm
  split
  ·rename_i hc;have:=hk b (by simpa using hc);rw [←BE.bQ]at this;rw [this];rfl
  ·split
   ·rename_i hc;have:=hk (j5 b) (by simpa using hc);rw [←BE.bQ,dT]at this;simp only [BE.den];cases hb:b.den ρ
    ·rfl
    ·rw [hb]at this;cases this
   ·rfl
theorem SV.Ma{known:List BE}(hk: ∀b∈known,b.prop ρ)(v:SV):(v.fix known).val ρ=v.val ρ:=by
 unfold SV.fix;split
 ·rename_i c v;have hd:=oG hk c;split
  ·rename_i e;rw [e]at hd;simp [SV.val,←hd,BE.den]
  ·rename_i e;rw [e]at hd;simp [SV.val,←hd,BE.den]
  ·rfl
 ·rename_i b;simp only [SV.val,oG hk b]
 ·rfl
theorem SV.Tv{known:List BE}(hk: ∀b∈known,b.prop ρ){c:BE}(hc:c.den ρ=true)(v:SV):(v.aby c known).val ρ=v.val ρ:=by
 have key: ∀b:BE,known.contains (j5 (B_ c b))=true→b.den ρ=false:=by
  intro b hb;have:=hk _ (by simpa using hb);rw [←BE.bQ,dT,pj,hc]at this;simpa using this
 unfold SV.aby;split
 ·split
  ·rename_i b hb;simp only [SV.val,key b hb,BE.den]
  ·rfl
 ·split
  ·rename_i b v hb;simp [SV.val,key b hb]
  ·rfl
 ·rfl
theorem HA.w_(h:HA fr nt ρ a){known:List BE}(hk: ∀b∈known,b.prop ρ){g:Option BE}(hg:oU ρ g=true):vm ρ (CZ g known fr) a.eval:=by
 refine⟨fun s v hs=>?_,fun _=>rfl,fun _=>rfl⟩;cases g with
 | none=>
  simp only [CZ,aus]at hs;obtain⟨u,hu,rfl⟩:=hs;rw [SV.Ma hk];exact h.aX s u hu
 | some c=>
  simp only [CZ,aus]at hs;obtain⟨u,hu,rfl⟩:=hs;rw [SV.Tv hk hg,SV.Ma hk];exact(HA.OQ h hg).1 s u hu
theorem qF(h:HA fr nt ρ a){known:List BE}(hk: ∀b∈known,b.prop ρ){x:Operand}{b:BE}(hc:Kc fr known x=some b):a.eval x= .bool (b.den ρ):=by
 unfold Kc at hc;split at hc
 ·rename_i b' he;cases hc;rw [eH h.eval he,oG hk];rfl
 ·cases hc
theorem wB{all:Array Oper}{tmps:Array Value}{j d:Nat}{oj:Oper}(hj:all[j]? =some oj)(hd:oj.dst=some d){b:Bool}(hv:tmps.getD d undef= .bool b):
  yielded all tmps j=some b:=by
 unfold yielded;simp only [hj,Option.bind_some,hd];rw [auQ]at hv;cases ht:tmps[d]? with
 | none=>rw [ht]at hv;cases hv
 | some v=>
  rw [ht]at hv;simp only [au8]at hv;subst hv;rfl
theorem o6{all:Array Oper}{tmps:Array Value}{j d:Nat}{oj:Oper}(hj:all[j]? =some oj)(hd:oj.dst=some d)(hv:tmps.getD d undef=undef):
  yielded all tmps j=none:=by
 unfold yielded;simp only [hj,Option.bind_some,hd];rw [auQ]at hv;cases ht:tmps[d]? with
 | none=>rfl
 | some v=>
  rw [ht]at hv;simp only [au8]at hv;subst hv;rfl
theorem tO(h:HA fr nt ρ a){all:Array Oper}{o:Oper}{g:Option BE}(hg:guardOf all fr o=some g):
  Region.wanted o (yielded all a.tmps)=oU ρ g:=by
 unfold guardOf at hg;split at hg
 ·rename_i hn;cases hg;simp [Region.wanted,hn,oU]
 ·rename_i j want hn;split at hg
  ·rename_i oj hj;split at hg
   ·rename_i d hd;split at hg
    ·rename_i b hl;cases hg;have:=wB hj hd (h.aX d _ hl);simp only [Region.wanted,hn,this,oU];cases want
     ·simp only [Bool.false_eq_true,if_false,dT];cases b.den ρ<;>rfl
     ·simp only [if_true];cases b.den ρ<;>rfl
    ·rename_i c b hl;cases hg;have h1:=h.aX d _ hl;simp only [SV.val]at h1;simp only [Region.wanted,hn,oU,pj];cases hc:c.den ρ with
     | true=>
      rw [hc,if_pos rfl]at h1;rw [wB hj hd h1];cases want
      ·simp only [Bool.false_eq_true,if_false,dT,Bool.true_and];cases b.den ρ<;>rfl
      ·simp only [if_true,Bool.true_and];cases b.den ρ<;>rfl
     | false=>
      rw [hc,if_neg (by simp)]at h1;rw [o6 hj hd h1];rfl
    ·rename_i hl;cases hg;rw [Region.wanted,hn];simp only [o6 hj hd (h.aX d _ hl),oU,BE.den];rfl
    ·rename_i c hl;cases hg;have h1:=h.aX d _ hl;simp only [SV.val,ite_self]at h1;rw [Region.wanted,hn];simp only [o6 hj hd h1,oU,BE.den];rfl
    ·cases hg
   ·cases hg
  ·cases hg
theorem lS(h:HA fr nt ρ a){all:Array Oper}{known:List BE}(hk: ∀b∈known,b.prop ρ){o:Oper}{g:Option BE}(hg:sO all fr known o=some g):
  Region.wanted o (yielded all a.tmps)=oU ρ g:=by
 unfold sO at hg;split at hg
 ·rename_i b hb;rw [tO h hb];have hd:=oG hk b;split at hg
  ·rename_i he;cases hg;rw [he]at hd;exact hd.symm
  ·cases hg;exact hd.symm
 ·rw [tO h hg]
theorem zI{g:Option BE}{b:BE}(h:(gvc g b).prop ρ)(hg:oU ρ g=true):b.prop ρ:=by
 cases g with
 | none=>exact h
 | some c=>
  simp only [gvc,oU]at h hg;rw [←BE.bQ,Ky,dT,hg]at h;rw [←BE.bQ];simpa using h
theorem xh{b:BE}(h:b.sure=true)(ρ:Env):b.den ρ=true:=by
 simp only [BE.sure,ai]at h;rw [lJ h.1];exact h.2
theorem jx{al:Value→List HP→Prop}{g:Option BE}{known:List BE}{r:F}{L:Nat→LC}(hk: ∀b∈known,b.prop ρ): ∀{vcs:List BE},VC P al (sx g vcs known r) ρ L→
  (oU ρ g=true→∀b∈vcs,b.prop ρ)∧VC P al r ρ L
 | [],h=>⟨fun _ b hb=>(by cases hb),h⟩
 | b::bs,h=>by
  unfold sx at h;split at h
  ·rename_i hc;obtain⟨h1,h2⟩:=jx hk h;refine⟨fun hg x hx=>?_,h2⟩;rcases List.mem_cons.1 hx with rfl | hx
   ·rw [Bool.or_eq_true,Bool.or_eq_true]at hc;rcases hc with(hc | hc) | hc
    ·rw [beq_iff_eq]at hc;exact zI (by rw [hc];rfl) hg
    ·exact zI (hk _ (by simpa using hc)) hg
    ·exact zI ((BE.bQ _ _).1 (xh hc _)) hg
   ·exact h1 hg x hx
  ·simp only [VC,ax]at h;obtain⟨h1,h2⟩:=jx hk (h.2 h.1);refine⟨fun hg x hx=>?_,h2⟩;rcases List.mem_cons.1 hx with rfl | hx
   ·exact zI h.1 hg
   ·exact h1 hg x hx
theorem yI{look:Nat→Option SV}{α:Type}{f:α→Option SV}{g:α→Sem Value}(hf: ∀x v,f x=some v→(g x).run P w= .ok (v.val ρ) w): ∀(xs:List α) (vs:List SV),j9 (xs.map f)=some vs→
  (xs.mapM g).run P w= .ok (SV.bH ρ vs) w
 | [],vs,he=>by simp [j9]at he;subst he;simp [SV.bH]
 | x::r,vs,he=>by
  simp only [auK]at he;cases hx:f x with
  | none=>rw [hx]at he;simp [j9]at he
  | some v=>
   rw [hx]at he;simp only [j9,aus]at he;obtain⟨rs,hrs,rfl⟩:=he;have:=yI (look:=look) hf r rs hrs;simp [List.mapM_cons,hf x v hx,this,SV.bH]
def Mb(tmps:Array Value):ResultVar→Sem Value
 | .tmp t=>pure (tmps.getD t undef)
 | .cell c t=>do loadVar t (←asAddr (tmps.getD c undef))
theorem BU(fn:Func)(tmps:Array Value):results fn tmps=(do let vs←fn.results.mapM (Mb tmps);pure (if h:vs.size=1 then vs[0]else .tuple vs)):=by
 unfold results;congr 2
theorem qm{T:List TI}(hT:bB P T=true){st:St}(hw:HW Fs w0 st ρ w)(ha:HA st.fr nt ρ a){fn:Func}{v:SV}(hv:BG T st fn=some v):
  (results fn a.tmps).run P w= .ok (v.val ρ) w:=by
 obtain⟨S,hS⟩:=hw.own;have one: ∀(x:ResultVar) (u:SV),E2 T st x=some u→
   (Mb a.tmps x).run P w= .ok (u.val ρ) w:=by
  intro x u hx;unfold Mb;cases x with
  | tmp t=>
   have:=ha.aX t u hx;simp only [this,auI]
  | cell c t=>
   simp only [E2]at hx;split at hx
   ·rename_i ti y dc hy;split at hx
    ·rename_i r hr;split at hx
     ·rename_i he;cases hx;obtain⟨rfl,hi⟩:=aC hT dc;have db:Reads st.hp ρ w S r.rd:=by
       intro j _ ck hj;refine(hS.at_ j (ck.den ρ) ?_).1;rw [auu (by simpa using (aup.1 hj).1),List.getElem?_map,hj];rfl
      have h1:=(tu hi hr db (by rw [List.isEmpty_iff.1 he];intro b hb;cases hb)).1;have h2:=ha.aX c y hy;simp only [h2];unfold Instr.loadAt at h1;cases nP:y.val ρ with
      | pointer p=>
       cases p with
       | some ad=>
        rw [nP]at h1;simpa [Instr.sureAddr,asAddr] using h1
       | none=>rw [nP]at h1;simp [Instr.sureAddr]at h1
      | _=>rw [nP]at h1;simp [Instr.sureAddr]at h1
     ·cases hx
    ·cases hx
   ·cases hx
 unfold BG at hv;have key: ∀vs,j9 (fn.results.toList.map (E2 T st))=some vs→
   (fn.results.mapM (Mb a.tmps)).run P w= .ok (SV.bH ρ vs).toArray w:=by
  intro vs Ie;have:=yI (look:=fun _=>none) one _ vs Ie;rw [Array.mapM_eq_mapM_toList];simp [this]
 split at hv
 ·rename_i u hu;cases hv;have:=key _ hu;rw [BU];simp only [auC];rw [this];simp [SV.bH]
 ·rename_i vs fy Ie;cases hv;have:=key _ Ie;rw [BU];simp only [auC];rw [this];have hl:(SV.bH ρ vs).length≠1:=by
   intro h1;have: ∀l:List SV,(SV.bH ρ l).length=l.length:=by
    intro l;induction l with
    | nil=>rfl
    | cons x r ih=>simp [SV.bH,ih]
   rw [this]at h1;obtain⟨x,rfl⟩:=List.length_eq_one_iff.1 h1;exact fy x rfl
  simp [hl,SV.val]
 ·cases hv
end
end Go.RX
