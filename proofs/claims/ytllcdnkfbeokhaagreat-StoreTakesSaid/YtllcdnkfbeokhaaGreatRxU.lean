/- Executor. -/
import Derived.Test.YtllcdnkfbeokhaaGreatM16
open Array renaming getD_eq_getD_getElem? → aqK
open Bool renaming and_eq_true → ai
open Go.Sem renaming run_bind → aqA, run_pure → aqH
open List renaming all_eq_true → aqn, getElem?_append_left → aqs, getElem?_eq_some_iff → aqo, map_cons → aqP, mem_filter → aqL
open Nat renaming blt_eq → aqB
open Option renaming map_eq_some_iff → aqq
namespace Go.RX
section
variable {P:Program} {ρ bF:Env} {a:Act} {w:World} {fr:List (Nat×SV)} {nt:NT}
theorem nK(d:Nat)(fr:List (Nat×SV))(s:Nat)(h:s≠d):look (fr.filter fun x=> !(x.1==d)) s=look fr s:=by
 induction fr with
 | nil=>rfl
 | cons x r ih=>
  obtain⟨t,v⟩:=x;by_cases ht:t=d
  ·subst ht;rw [List.filter_cons_of_neg (by simp),ih]
   conv=>rhs;unfold look
   rw [if_neg (by simp;exact Ne.symm h)]
  ·rw [List.filter_cons_of_pos (by simpa using ht)];unfold look;rw [ih]
theorem HA.put(h:HA fr nt ρ a){d:Option Nat}{v:SV}{u:Value}(hd: ∀x,d=some x→x<nt.n)(hv:u=v.val ρ)(st:St)(TM:st.fr=fr):
  HA (st.put d v).fr nt ρ (a.put d u):=by
 subst TM;cases d with
 | none=>exact h
 | some d=>
  have cq:=hd d rfl;refine⟨h.defers,by simpa [Act.put] using h.size,fun s x hs=>?_⟩;simp only [St.put]at hs;unfold look at hs;split at hs
  ·rename_i LL;rw [beq_iff_eq]at LL;subst LL;cases hs;have:=h.size;rw [←hv];simp only [Act.put];rw [aqK,Array.getElem?_setIfInBounds_self_of_lt (by omega)];rfl
  ·rename_i LL;have fg:s≠d:=fun e=>LL (by simp [e])
   rw [nK d _ s fg]at hs;have:=h.aU s x hs;rw [←this];simp only [Act.put];rw [aqK,aqK,Array.getElem?_setIfInBounds_ne (Ne.symm fg)]
theorem eI(st:St)(d:Option Nat)(v:SV):(st.put d v).hp=st.hp∧(st.put d v).aW=st.aW∧(st.put d v).known=st.known∧(st.put d v).nt=st.nt∧(st.put d v).fn=st.fn:=by
 cases d<;>exact⟨rfl,rfl,rfl,rfl,rfl⟩
theorem XI{c:ct}{st:St}{d:Option Nat}{v:SV}(h:lW c st.fr=true)(hv:v.sc c=true):lW c (st.put d v).fr=true:=by
 cases d with
 | none=>exact h
 | some d=>
  simp only [St.put,lW,List.all_cons,ai];exact⟨hv,aqn.2 fun x hx=>aqn.1 h x (aqL.1 hx).1⟩
variable {Fs:List HP} {w0:World}
theorem HW.put{st:St}(h:HW Fs w0 st ρ w){d:Option Nat}{v:SV}(hv:v.sc st.aW=true):HW Fs w0 (st.put d v) ρ w:=by
 obtain⟨e1,e2,e3,e4,_⟩:=eI st d v;refine⟨by rw [e2];exact h.lens,by rw [e2];exact XI h.lx hv,by rw [e1,e2];exact h.gj,by rw [e2,e3];exact h.ot,by rw [e3];exact h.kn,by rw [e1];exact h.own,h.same,by rw [e2,e4];exact h.mw⟩
theorem uo{c:ct}(eV:g_ c ρ bF){ds:List MK}(h:ds.all (MK.sc c)=true):marks ρ ds=marks bF ds:=by
 unfold marks;congr 1;rw [List.flatMap_def,List.flatMap_def];congr 1;refine List.map_congr_left fun d hd=>?_
 have:=aqn.1 h d hd;cases d<;>simp only [MK.sc,aqB]at this<;>simp only [MK.blocks,eV.b _ this]
theorem HA.more(h:HA fr nt ρ a){c:ct}(jt:lW c fr=true)(QM:nt.ds.all (MK.sc c)=true)(eV:g_ c ρ bF):HA fr nt bF a:=
 ⟨h.defers.trans (uo eV QM),h.size,fun s v hs=>by rw [h.aU s v hs];exact(SV.vo eV (B8 jt hs)).1⟩
theorem HA.eval(h:HA fr nt ρ a):tL ρ (look fr) a.eval:=
 ⟨fun s v hs=>h.aU s v hs,fun _=>rfl,fun _=>rfl⟩
theorem SV.Tl{c:BE}(hc:c.den ρ=true)(v:SV):(v.HM c).val ρ=v.val ρ:=by
 unfold SV.HM;split
 ·rename_i c' v;split
  ·rename_i he;subst he;rw [SV.val,if_pos hc]
  ·split
   ·split
    ·rename_i he;subst he;simp only [SV.val,BE.den,hc,Bool.true_and]
    ·rfl
   ·rfl
 ·split
  ·rename_i b hb;subst hb;simp only [SV.val,hc,BE.den]
  ·rfl
 ·rfl
theorem SV.P4{c:BE}(hc:c.den ρ=false)(v:SV):(v.rU c).val ρ=v.val ρ:=by
 unfold SV.rU;split
 ·rename_i c' v;split
  ·rename_i he;subst he;simp [SV.val,hc]
  ·split
   ·split
    ·rename_i he;subst he;simp [SV.val,BE.den,hc]
    ·rfl
   ·rfl
 ·split
  ·rename_i b hb;subst hb;simp only [SV.val,hc,BE.den]
  ·rfl
 ·rfl
theorem SV.Tm{c:BE}{n:ct}{v:SV}(h:v.sc n=true):(v.rU c).sc n=true:=by
 unfold SV.rU;split
 ·rename_i c' v;split
  ·rfl
  ·split
   ·split
    ·rfl
    ·exact h
   ·exact h
 ·split
  ·rfl
  ·exact h
 ·exact h
theorem SV.XJ{c:BE}{n:ct}{v:SV}(h:v.sc n=true):(v.HM c).sc n=true:=by
 unfold SV.HM;split
 ·rename_i c' v;simp only [SV.sc,ai]at h;split
  ·exact h.2
  ·split
   ·split
    ·have h1:=h.1;simp only [BE.sc,ai]at h1;simp only [SV.sc,ai];exact⟨h1.2,h.2⟩
    ·simp only [SV.sc,ai];exact h
   ·simp only [SV.sc,ai];exact h
 ·split
  ·rfl
  ·exact h
 ·exact h
theorem FF{f:SV→SV}{fr:List (Nat×SV)}{s:Nat}{v:SV}(h:look (fr.map fun x=>(x.1,f x.2)) s=some v): ∃u,look fr s=some u∧v=f u:=by
 induction fr with
 | nil=>cases h
 | cons x r ih=>
  obtain⟨t,u⟩:=x;have h':(if t==s then some (f u)else look (r.map fun x=>(x.1,f x.2)) s)=some v:=h;show∃u',(if t==s then some u else look r s)=some u'∧v=f u';split at h'
  ·rename_i ht;cases h';exact⟨u,by rw [if_pos ht],rfl⟩
  ·rename_i ht;obtain⟨u',h1,h2⟩:=ih h';exact⟨u',by rw [if_neg ht];exact h1,h2⟩
theorem HA.HM{st:St}(h:HA st.fr nt ρ a){c:BE}(hc:c.den ρ=true):HA (st.HM c).fr nt ρ a:=
 ⟨h.defers,h.size,fun s v hs=>by
  obtain⟨u,h1,rfl⟩:=FF (f:=SV.HM c) hs;rw [SV.Tl hc];exact h.aU s u h1⟩
theorem HA.rU{st:St}(h:HA st.fr nt ρ a){c:BE}(hc:c.den ρ=false):HA (st.rU c).fr nt ρ a:=
 ⟨h.defers,h.size,fun s v hs=>by
  obtain⟨u,h1,rfl⟩:=FF (f:=SV.rU c) hs;rw [SV.P4 hc];exact h.aU s u h1⟩
theorem HA.Lt(h:HA fr nt ρ a){c:BE}(hc:c.den ρ=true):tL ρ (under c (look fr)) a.eval:=by
 refine⟨fun s v hs=>?_,fun _=>rfl,fun _=>rfl⟩;unfold under at hs;split at hs
 ·rename_i c' v' hl;have:=h.aU s _ hl;split at hs
  ·rename_i he;subst he;cases hs;show a.tmps.getD s undef=_;rw [this,SV.val,if_pos hc]
  ·split at hs
   ·rename_i x y _;split at hs
    ·rename_i he;subst he;cases hs;show a.tmps.getD s undef=_;rw [this];simp only [SV.val,BE.den,hc,Bool.true_and]
    ·cases hs;exact this
   ·cases hs;exact this
 ·exact h.aU s v hs
theorem kP{b:BE}(h:b.sc {}=true)(ρ:Env):b.den ρ=b.den y8:=by
 have e:g_ {} ρ {ρ with iv:=[],av:=[],bo:=[],bv:=[],vv:=[],pv:=[],lr:=[]}:=by
  constructor<;>first | rfl | (intro i hi;simp at hi)
 rw [BE.bN e h];clear h e;have key: ∀(x:E) (j:Nat),x.den {ρ with iv:=[],av:=[],bo:=[],bv:=[],vv:=[],pv:=[],lr:=[]} j=x.den y8 j:=by
  intro x
  induction x with
  | lit n=>intro j;rfl
  | var i=>intro j;rfl
  | cI i=>intro j;rfl
  | Qk a i ha hi=>intro j;simp only [E.den,ha,hi]
  | bin o k a b ha hb=>intro j;simp only [E.den,ha,hb]
  | wrap k a ha=>intro j;simp only [E.den,ha]
  | m7 a i v ha hi hv=>intro j;simp only [E.den,ha,hi,hv]
  | shift a o ha ho=>intro j;simp only [E.den,ha,ho]
  | jl a o n b ha ho hn hb=>intro j;simp only [E.den,ha,ho,hn,hb]
  | sA b=>intro j;rfl
  | kc n a ha=>intro j;simp only [E.den];rw [List.map_congr_left fun i _=>ha i]
  | pV l=>intro j;rfl
  | QU a i ha hi=>intro j;simp only [E.den,pW,ha,hi]
  | qi a i s ha hi hs=>intro j;simp only [E.den,Dw,ha,hi,hs]
  | TB s hs=>intro j;simp only [E.den,Jp,hs]
 have aib: ∀x:E,x.den {ρ with iv:=[],av:=[],bo:=[],bv:=[],vv:=[],pv:=[],lr:=[]}=x.den y8:=fun x=>funext (key x)
 induction b with
 | lit b=>rfl
 | var i=>rfl
 | eq a b=>simp only [BE.den,key]
 | lt a b=>simp only [BE.den,key]
 | le a b=>simp only [BE.den,key]
 | nz a=>simp only [BE.den,key]
 | TC n a b=>simp only [BE.den,key]
 | not a ih=>simp only [BE.den,ih]
 | and a b lC qj=>simp only [BE.den,lC,qj]
 | or a b lC qj=>simp only [BE.den,lC,qj]
 | ite c t e ihc FL FM=>simp only [BE.den,ihc,FL,FM]
 | seq a b=>simp only [BE.den,aib]
 | BP i=>rfl
theorem nL{known:List BE}(hk: ∀b∈known,b.prop ρ)(b:BE):(rI known b).den ρ=b.den ρ:=by
 unfold rI;split
 ·rfl
 ·split
  ·rename_i hc;exact(kP hc ρ).symm
  split
  ·rename_i hc;have:=hk b (by simpa using hc);rw [←BE.bK]at this;rw [this];rfl
  ·split
   ·rename_i hc;have:=hk (jT b) (by simpa using hc);rw [←BE.bK,dE]at this;simp only [BE.den];cases hb:b.den ρ
    ·rfl
    ·rw [hb]at this;cases this
   ·rfl
theorem SV.Jg{known:List BE}(hk: ∀b∈known,b.prop ρ)(v:SV):(v.fix known).val ρ=v.val ρ:=by
 unfold SV.fix;split
 ·rename_i c v;have hd:=nL hk c;split
  ·rename_i e;rw [e]at hd;simp [SV.val,←hd,BE.den]
  ·rename_i e;rw [e]at hd;simp [SV.val,←hd,BE.den]
  ·rfl
 ·rename_i b;simp only [SV.val,nL hk b]
 ·rfl
theorem SV.P5{known:List BE}(hk: ∀b∈known,b.prop ρ){c:BE}(hc:c.den ρ=true)(v:SV):(v.Xz c known).val ρ=v.val ρ:=by
 have key: ∀b:BE,known.contains (jT (Ax c b))=true→b.den ρ=false:=by
  intro b hb;have:=hk _ (by simpa using hb);rw [←BE.bK,dE,oA,hc]at this;simpa using this
 unfold SV.Xz;split
 ·split
  ·rename_i b hb;simp only [SV.val,key b hb,BE.den]
  ·rfl
 ·split
  ·rename_i b v hb;simp [SV.val,key b hb]
  ·rfl
 ·rfl
theorem HA.vw(h:HA fr nt ρ a){known:List BE}(hk: ∀b∈known,b.prop ρ){g:Option BE}(hg:nX ρ g=true):tL ρ (Bj g known fr) a.eval:=by
 refine⟨fun s v hs=>?_,fun _=>rfl,fun _=>rfl⟩;cases g with
 | none=>
  simp only [Bj,aqq]at hs;obtain⟨u,hu,rfl⟩:=hs;rw [SV.Jg hk];exact h.aU s u hu
 | some c=>
  simp only [Bj,aqq]at hs;obtain⟨u,hu,rfl⟩:=hs;rw [SV.P5 hk hg,SV.Jg hk];exact(HA.Lt h hg).1 s u hu
theorem pH(h:HA fr nt ρ a){known:List BE}(hk: ∀b∈known,b.prop ρ){x:Operand}{b:BE}(hc:HN fr known x=some b):a.eval x= .bool (b.den ρ):=by
 unfold HN at hc;split at hc
 ·rename_i b' he;cases hc;rw [ep h.eval he,nL hk];rfl
 ·cases hc
theorem uO{all:Array Oper}{tmps:Array Value}{j d:Nat}{oj:Oper}(hj:all[j]? =some oj)(hd:oj.dst=some d){b:Bool}(hv:tmps.getD d undef= .bool b):
  yielded all tmps j=some b:=by
 unfold yielded;simp only [hj,Option.bind_some,hd];rw [aqK]at hv;cases ht:tmps[d]? with
 | none=>rw [ht]at hv;cases hv
 | some v=>
  rw [ht]at hv;simp only [Option.getD_some]at hv;subst hv;rfl
theorem om{all:Array Oper}{tmps:Array Value}{j d:Nat}{oj:Oper}(hj:all[j]? =some oj)(hd:oj.dst=some d)(hv:tmps.getD d undef=undef):
  yielded all tmps j=none:=by
 unfold yielded;simp only [hj,Option.bind_some,hd];rw [aqK]at hv;cases ht:tmps[d]? with
 | none=>rfl
 | some v=>
  rw [ht]at hv;simp only [Option.getD_some]at hv;subst hv;rfl
theorem sv(h:HA fr nt ρ a){all:Array Oper}{o:Oper}{g:Option BE}(hg:guardOf all fr o=some g):
  Region.wanted o (yielded all a.tmps)=nX ρ g:=by
 unfold guardOf at hg;split at hg
 ·rename_i hn;cases hg;simp [Region.wanted,hn,nX]
 ·rename_i j want hn;split at hg
  ·rename_i oj hj;split at hg
   ·rename_i d hd;split at hg
    ·rename_i b hl;cases hg;have:=uO hj hd (h.aU d _ hl);simp only [Region.wanted,hn,this,nX];cases want
     ·simp only [Bool.false_eq_true,if_false,dE];cases b.den ρ<;>rfl
     ·simp only [if_true];cases b.den ρ<;>rfl
    ·rename_i c b hl;cases hg;have h1:=h.aU d _ hl;simp only [SV.val]at h1;simp only [Region.wanted,hn,nX,oA];cases hc:c.den ρ with
     | true=>
      rw [hc,if_pos rfl]at h1;rw [uO hj hd h1];cases want
      ·simp only [Bool.false_eq_true,if_false,dE,Bool.true_and];cases b.den ρ<;>rfl
      ·simp only [if_true,Bool.true_and];cases b.den ρ<;>rfl
     | false=>
      rw [hc,if_neg (by simp)]at h1;rw [om hj hd h1];rfl
    ·rename_i hl;cases hg;rw [Region.wanted,hn];simp only [om hj hd (h.aU d _ hl),nX,BE.den];rfl
    ·rename_i c hl;cases hg;have h1:=h.aU d _ hl;simp only [SV.val,ite_self]at h1;rw [Region.wanted,hn];simp only [om hj hd h1,nX,BE.den];rfl
    ·cases hg
   ·cases hg
  ·cases hg
theorem kW(h:HA fr nt ρ a){all:Array Oper}{known:List BE}(hk: ∀b∈known,b.prop ρ){o:Oper}{g:Option BE}(hg:ry all fr known o=some g):
  Region.wanted o (yielded all a.tmps)=nX ρ g:=by
 unfold ry at hg;split at hg
 ·rename_i b hb;rw [sv h hb];have hd:=nL hk b;split at hg
  ·rename_i he;cases hg;rw [he]at hd;exact hd.symm
  ·cases hg;exact hd.symm
 ·rw [sv h hg]
theorem yi{g:Option BE}{b:BE}(h:(Yx g b).prop ρ)(hg:nX ρ g=true):b.prop ρ:=by
 cases g with
 | none=>exact h
 | some c=>
  simp only [Yx,nX]at h hg;rw [←BE.bK,Ie,dE,hg]at h;rw [←BE.bK];simpa using h
theorem vC{b:BE}(h:b.sure=true)(ρ:Env):b.den ρ=true:=by
 simp only [BE.sure,ai]at h;rw [kP h.1];exact h.2
theorem iZ{al:Value→List HP→Prop}{g:Option BE}{known:List BE}{r:F}{L:Nat→LC}(hk: ∀b∈known,b.prop ρ): ∀{vcs:List BE},VC P al (qT g vcs known r) ρ L→
  (nX ρ g=true→∀b∈vcs,b.prop ρ)∧VC P al r ρ L
 | [],h=>⟨fun _ b hb=>(by cases hb),h⟩
 | b::bs,h=>by
  unfold qT at h;split at h
  ·rename_i hc;obtain⟨h1,h2⟩:=iZ hk h;refine⟨fun hg x hx=>?_,h2⟩;rcases List.mem_cons.1 hx with rfl | hx
   ·rw [Bool.or_eq_true,Bool.or_eq_true]at hc;rcases hc with(hc | hc) | hc
    ·rw [beq_iff_eq]at hc;exact yi (by rw [hc];rfl) hg
    ·exact yi (hk _ (by simpa using hc)) hg
    ·exact yi ((BE.bK _ _).1 (vC hc _)) hg
   ·exact h1 hg x hx
  ·simp only [VC,ax]at h;obtain⟨h1,h2⟩:=iZ hk (h.2 h.1);refine⟨fun hg x hx=>?_,h2⟩;rcases List.mem_cons.1 hx with rfl | hx
   ·exact yi h.1 hg
   ·exact h1 hg x hx
theorem xj{look:Nat→Option SV}{α:Type}{f:α→Option SV}{g:α→Sem Value}(hf: ∀x v,f x=some v→(g x).run P w= .ok (v.val ρ) w): ∀(xs:List α) (vs:List SV),jB (xs.map f)=some vs→
  (xs.mapM g).run P w= .ok (SV.bD ρ vs) w
 | [],vs,he=>by simp [jB]at he;subst he;simp [SV.bD]
 | x::r,vs,he=>by
  simp only [aqP]at he;cases hx:f x with
  | none=>rw [hx]at he;simp [jB]at he
  | some v=>
   rw [hx]at he;simp only [jB,aqq]at he;obtain⟨rs,hrs,rfl⟩:=he;have:=xj (look:=look) hf r rs hrs;simp [List.mapM_cons,hf x v hx,this,SV.bD]
def Jh(tmps:Array Value):ResultVar→Sem Value
 | .tmp t=>pure (tmps.getD t undef)
 | .cell c t=>do loadVar t (←asAddr (tmps.getD c undef))
theorem Ac(fn:Func)(tmps:Array Value):results fn tmps=(do let vs←fn.results.mapM (Jh tmps);pure (if h:vs.size=1 then vs[0]else .tuple vs)):=by
 unfold results;congr 2
theorem pq{T:List TI}(hT:bx P T=true){st:St}(hw:HW Fs w0 st ρ w)(ha:HA st.fr nt ρ a){fn:Func}{v:SV}(hv:zS T st fn=some v):
  (results fn a.tmps).run P w= .ok (v.val ρ) w:=by
 obtain⟨S,hS⟩:=hw.own;have one: ∀(x:ResultVar) (u:SV),CZ T st x=some u→
   (Jh a.tmps x).run P w= .ok (u.val ρ) w:=by
  intro x u hx;unfold Jh;cases x with
  | tmp t=>
   have:=ha.aU t u hx;simp only [this,aqH]
  | cell c t=>
   simp only [CZ]at hx;split at hx
   ·rename_i ti y cO hy;split at hx
    ·rename_i r hr;split at hx
     ·rename_i he;cases hx;obtain⟨rfl,hi⟩:=aA hT cO;have cN:Reads st.hp ρ w S r.rd:=by
       intro j _ ck hj;refine(hS.at_ j (ck.den ρ) ?_).1;rw [aqs (by simpa using (aqo.1 hj).1),List.getElem?_map,hj];rfl
      have h1:=(rZ hi hr cN (by rw [List.isEmpty_iff.1 he];intro b hb;cases hb)).1;have h2:=ha.aU c y hy;simp only [h2];unfold Instr.loadAt at h1;cases pY:y.val ρ with
      | pointer p=>
       cases p with
       | some ad=>
        rw [pY]at h1;simpa [Instr.sureAddr,asAddr] using h1
       | none=>rw [pY]at h1;simp [Instr.sureAddr]at h1
      | _=>rw [pY]at h1;simp [Instr.sureAddr]at h1
     ·cases hx
    ·cases hx
   ·cases hx
 unfold zS at hv;have key: ∀vs,jB (fn.results.toList.map (CZ T st))=some vs→
   (fn.results.mapM (Jh a.tmps)).run P w= .ok (SV.bD ρ vs).toArray w:=by
  intro vs FQ;have:=xj (look:=fun _=>none) one _ vs FQ;rw [Array.mapM_eq_mapM_toList];simp [this]
 split at hv
 ·rename_i u hu;cases hv;have:=key _ hu;rw [Ac];simp only [aqA];rw [this];simp [SV.bD]
 ·rename_i vs fg FQ;cases hv;have:=key _ FQ;rw [Ac];simp only [aqA];rw [this];have hl:(SV.bD ρ vs).length≠1:=by
   intro h1;have: ∀l:List SV,(SV.bD ρ l).length=l.length:=by
    intro l;induction l with
    | nil=>rfl
    | cons x r ih=>simp [SV.bD,ih]
   rw [this]at h1;obtain⟨x,rfl⟩:=List.length_eq_one_iff.1 h1;exact fg x rfl
  simp [hl,SV.val]
 ·cases hv
end
end Go.RX
