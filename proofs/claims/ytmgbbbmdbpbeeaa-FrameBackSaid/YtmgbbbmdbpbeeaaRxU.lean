/- Executor. -/
import Derived.Test.YtmgbbbmdbpbeeaaM16
open Array renaming getD_eq_getD_getElem? → adS
open Bool renaming and_eq_true → ai
open Go.Sem renaming run_bind → adL, run_pure → ad_
open List renaming all_eq_true → adt, getElem?_append_left → adz, getElem?_eq_some_iff → adu, map_cons → adT, mem_cons → adW, mem_filter → adU
open Nat renaming blt_eq → adK
open Option renaming getD_some → aee, map_eq_some_iff → adw
namespace Go.RX
section
variable {P:Program} {ρ bE:Env} {a:Act} {w:World} {fr:List (Nat×SV)} {nt:NT}
theorem lX(d:Nat)(fr:List (Nat×SV))(s:Nat)(h:s≠d):look (fr.filter fun x=> !(x.1==d)) s=look fr s:=by
 induction fr with
 | nil=>rfl
 | cons x r ih=>
  obtain⟨t,v⟩:=x;by_cases ht:t=d
  ·subst ht;rw [List.filter_cons_of_neg (by simp),ih]
   conv=>rhs;unfold look
   rw [if_neg (by simp;exact Ne.symm h)]
  ·rw [List.filter_cons_of_pos (by simpa using ht)];unfold look;rw [ih]
theorem HA.put(h:HA fr nt ρ a){d:Option Nat}{v:SV}{u:Value}(hd: ∀x,d=some x→x<nt.n)(hv:u=v.val ρ)(st:St)(QV:st.fr=fr):
  HA (st.put d v).fr nt ρ (a.put d u):=by
 subst QV;cases d with
 | none=>exact h
 | some d=>
  have bP:=hd d rfl;refine⟨h.defers,by simpa [Act.put] using h.size,fun s x hs=>?_⟩;simp only [St.put]at hs;unfold look at hs;split at hs
  ·rename_i KW;rw [beq_iff_eq]at KW;subst KW;cases hs;have:=h.size;rw [←hv];simp only [Act.put];rw [adS,Array.getElem?_setIfInBounds_self_of_lt (by omega)];rfl
  ·rename_i KW;have dR:s≠d:=fun e=>KW (by simp [e])
   rw [lX d _ s dR]at hs;have:=h.aV s x hs;rw [←this];simp only [Act.put];rw [adS,adS,Array.getElem?_setIfInBounds_ne (Ne.symm dR)]
theorem dG(st:St)(d:Option Nat)(v:SV):(st.put d v).hp=st.hp∧(st.put d v).aX=st.aX∧(st.put d v).known=st.known∧(st.put d v).nt=st.nt∧(st.put d v).fn=st.fn:=by
 cases d<;>exact⟨rfl,rfl,rfl,rfl,rfl⟩
theorem Tn{c:cG}{st:St}{d:Option Nat}{v:SV}(h:kF c st.fr=true)(hv:v.sc c=true):kF c (st.put d v).fr=true:=by
 cases d with
 | none=>exact h
 | some d=>
  simp only [St.put,kF,List.all_cons,ai];exact⟨hv,adt.2 fun x hx=>adt.1 h x (adU.1 hx).1⟩
variable {Fs:List HP} {w0:World}
theorem HW.put{st:St}(h:HW Fs w0 st ρ w){d:Option Nat}{v:SV}(hv:v.sc st.aX=true):HW Fs w0 (st.put d v) ρ w:=by
 obtain⟨e1,e2,e3,e4,_⟩:=dG st d v;refine⟨by rw [e2];exact h.lens,by rw [e2];exact Tn h.j9 hv,by rw [e1,e2];exact h.fy,by rw [e2,e3];exact h.mH,by rw [e3];exact h.kn,by rw [e1];exact h.own,h.same,by rw [e2,e4];exact h.kP⟩
theorem sD{c:cG}(dQ:ft c ρ bE){ds:List MK}(h:ds.all (MK.sc c)=true):marks ρ ds=marks bE ds:=by
 unfold marks;congr 1;rw [List.flatMap_def,List.flatMap_def];congr 1;refine List.map_congr_left fun d hd=>?_
 have:=adt.1 h d hd;cases d<;>simp only [MK.sc,adK]at this<;>simp only [MK.blocks,dQ.b _ this]
theorem HA.more(h:HA fr nt ρ a){c:cG}(iA:kF c fr=true)(Rr:nt.ds.all (MK.sc c)=true)(dQ:ft c ρ bE):HA fr nt bE a:=
 ⟨h.defers.trans (sD dQ Rr),h.size,fun s v hs=>by rw [h.aV s v hs];exact(SV.tM dQ (BW iA hs)).1⟩
theorem HA.eval(h:HA fr nt ρ a):r7 ρ (look fr) a.eval:=
 ⟨fun s v hs=>h.aV s v hs,fun _=>rfl,fun _=>rfl⟩
theorem SV.QB{c:BE}(hc:c.den ρ=true)(v:SV):(v.Ho c).val ρ=v.val ρ:=by
 unfold SV.Ho;split
 ·rename_i c' v;split
  ·rename_i he;subst he;rw [SV.val,if_pos hc]
  ·split
   ·split
    ·rename_i he;subst he;simp only [SV.val,BE.den,hc,Bool.true_and]
    ·rfl
   ·rfl
 ·split
  ·rename_i b hb;subst hb;simp only [SV.val,hc,BE.den]
  ·rfl
 ·rfl
theorem SV.Ny{c:BE}(hc:c.den ρ=false)(v:SV):(v.qw c).val ρ=v.val ρ:=by
 unfold SV.qw;split
 ·rename_i c' v;split
  ·rename_i he;subst he;simp [SV.val,hc]
  ·split
   ·split
    ·rename_i he;subst he;simp [SV.val,BE.den,hc]
    ·rfl
   ·rfl
 ·split
  ·rename_i b hb;subst hb;simp only [SV.val,hc,BE.den]
  ·rfl
 ·rfl
theorem SV.QC{c:BE}{n:cG}{v:SV}(h:v.sc n=true):(v.qw c).sc n=true:=by
 unfold SV.qw;split
 ·rename_i c' v;split
  ·rfl
  ·split
   ·split
    ·rfl
    ·exact h
   ·exact h
 ·split
  ·rfl
  ·exact h
 ·exact h
theorem SV.Tp{c:BE}{n:cG}{v:SV}(h:v.sc n=true):(v.Ho c).sc n=true:=by
 unfold SV.Ho;split
 ·rename_i c' v;simp only [SV.sc,ai]at h;split
  ·exact h.2
  ·split
   ·split
    ·have h1:=h.1;simp only [BE.sc,ai]at h1;simp only [SV.sc,ai];exact⟨h1.2,h.2⟩
    ·simp only [SV.sc,ai];exact h
   ·simp only [SV.sc,ai];exact h
 ·split
  ·rfl
  ·exact h
 ·exact h
theorem FD{f:SV→SV}{fr:List (Nat×SV)}{s:Nat}{v:SV}(h:look (fr.map fun x=>(x.1,f x.2)) s=some v): ∃u,look fr s=some u∧v=f u:=by
 induction fr with
 | nil=>cases h
 | cons x r ih=>
  obtain⟨t,u⟩:=x;have h':(if t==s then some (f u)else look (r.map fun x=>(x.1,f x.2)) s)=some v:=h;show∃u',(if t==s then some u else look r s)=some u'∧v=f u';split at h'
  ·rename_i ht;cases h';exact⟨u,by rw [if_pos ht],rfl⟩
  ·rename_i ht;obtain⟨u',h1,h2⟩:=ih h';exact⟨u',by rw [if_neg ht];exact h1,h2⟩
theorem HA.Ho{st:St}(h:HA st.fr nt ρ a){c:BE}(hc:c.den ρ=true):HA (st.Ho c).fr nt ρ a:=
 ⟨h.defers,h.size,fun s v hs=>by
  obtain⟨u,h1,rfl⟩:=FD (f:=SV.Ho c) hs;rw [SV.QB hc];exact h.aV s u h1⟩
theorem HA.qw{st:St}(h:HA st.fr nt ρ a){c:BE}(hc:c.den ρ=false):HA (st.qw c).fr nt ρ a:=
 ⟨h.defers,h.size,fun s v hs=>by
  obtain⟨u,h1,rfl⟩:=FD (f:=SV.qw c) hs;rw [SV.Ny hc];exact h.aV s u h1⟩
theorem HA.KA(h:HA fr nt ρ a){c:BE}(hc:c.den ρ=true):r7 ρ (under c (look fr)) a.eval:=by
 refine⟨fun s v hs=>?_,fun _=>rfl,fun _=>rfl⟩;unfold under at hs;split at hs
 ·rename_i c' v' hl;have:=h.aV s _ hl;split at hs
  ·rename_i he;subst he;cases hs;show a.tmps.getD s undef=_;rw [this,SV.val,if_pos hc]
  ·split at hs
   ·rename_i x y _;split at hs
    ·rename_i he;subst he;cases hs;show a.tmps.getD s undef=_;rw [this];simp only [SV.val,BE.den,hc,Bool.true_and]
    ·cases hs;exact this
   ·cases hs;exact this
 ·exact h.aV s v hs
theorem y3{b:BE}(h:b.sc {}=true)(ρ:Env):b.den ρ=b.den Nq:=by
 have e:ft {} ρ {ρ with iv:=[],av:=[],bo:=[],bv:=[],vv:=[],pv:=[],lr:=[]}:=by
  constructor<;>first | rfl | (intro i hi;simp at hi)
 rw [BE.bK e h];clear h e;have key: ∀(x:E) (j:Nat),x.den {ρ with iv:=[],av:=[],bo:=[],bv:=[],vv:=[],pv:=[],lr:=[]} j=x.den Nq j:=by
  intro x
  induction x with
  | lit n=>intro j;rfl
  | var i=>intro j;rfl
  | aO i=>intro j;rfl
  | NV a i ha hi=>intro j;simp only [E.den,ha,hi]
  | bin o k a b ha hb=>intro j;simp only [E.den,ha,hb]
  | wrap k a ha=>intro j;simp only [E.den,ha]
  | rO a i v ha hi hv=>intro j;simp only [E.den,ha,hi,hv]
  | shift a o ha ho=>intro j;simp only [E.den,ha,ho]
  | s7 a o n b ha ho hn hb=>intro j;simp only [E.den,ha,ho,hn,hb]
  | ky b=>intro j;rfl
  | kc n a ha=>intro j;simp only [E.den];rw [List.map_congr_left fun i _=>ha i]
  | oz l=>intro j;rfl
  | OO a i ha hi=>intro j;simp only [E.den,oA,ha,hi]
  | oR a i s ha hi hs=>intro j;simp only [E.den,DJ,ha,hi,hs]
  | QN s hs=>intro j;simp only [E.den,Ji,hs]
 have YP: ∀x:E,x.den {ρ with iv:=[],av:=[],bo:=[],bv:=[],vv:=[],pv:=[],lr:=[]}=x.den Nq:=fun x=>funext (key x)
 induction b with
 | lit b=>rfl
 | var i=>rfl
 | eq a b=>simp only [BE.den,key]
 | lt a b=>simp only [BE.den,key]
 | le a b=>simp only [BE.den,key]
 | nz a=>simp only [BE.den,key]
 | QO n a b=>simp only [BE.den,key]
 | not a ih=>simp only [BE.den,ih]
 | and a b lB rP=>simp only [BE.den,lB,rP]
 | or a b lB rP=>simp only [BE.den,lB,rP]
 | ite c t e WR RQ RR=>simp only [BE.den,WR,RQ,RR]
 | seq a b=>simp only [BE.den,YP]
theorem lY{known:List BE}(hk: ∀b∈known,b.prop ρ)(b:BE):(qm known b).den ρ=b.den ρ:=by
 unfold qm;split
 ·rfl
 ·split
  ·rename_i hc;exact(y3 hc ρ).symm
  split
  ·rename_i hc;have:=hk b (by simpa using hc);rw [←BE.bX]at this;rw [this];rfl
  ·split
   ·rename_i hc;have:=hk (iO b) (by simpa using hc);rw [←BE.bX,cX]at this;simp only [BE.den];cases hb:b.den ρ
    ·rfl
    ·rw [hb]at this;cases this
   ·rfl
theorem SV.IZ{known:List BE}(hk: ∀b∈known,b.prop ρ)(v:SV):(v.fix known).val ρ=v.val ρ:=by
 unfold SV.fix;split
 ·rename_i c v;have hd:=lY hk c;split
  ·rename_i e;rw [e]at hd;simp [SV.val,←hd,BE.den]
  ·rename_i e;rw [e]at hd;simp [SV.val,←hd,BE.den]
  ·rfl
 ·rename_i b;simp only [SV.val,lY hk b]
 ·rfl
theorem SV.Nz{known:List BE}(hk: ∀b∈known,b.prop ρ){c:BE}(hc:c.den ρ=true)(v:SV):(v.Tg c known).val ρ=v.val ρ:=by
 have key: ∀b:BE,known.contains (iO (zm c b))=true→b.den ρ=false:=by
  intro b hb;have:=hk _ (by simpa using hb);rw [←BE.bX,cX,mO,hc]at this;simpa using this
 unfold SV.Tg;split
 ·split
  ·rename_i b hb;simp only [SV.val,key b hb,BE.den]
  ·rfl
 ·split
  ·rename_i b v hb;simp [SV.val,key b hb]
  ·rfl
 ·rfl
theorem HA.tR(h:HA fr nt ρ a){known:List BE}(hk: ∀b∈known,b.prop ρ){g:Option BE}(hg:mv ρ g=true):r7 ρ (Ax g known fr) a.eval:=by
 refine⟨fun s v hs=>?_,fun _=>rfl,fun _=>rfl⟩;cases g with
 | none=>
  simp only [Ax,adw]at hs;obtain⟨u,hu,rfl⟩:=hs;rw [SV.IZ hk];exact h.aV s u hu
 | some c=>
  simp only [Ax,adw]at hs;obtain⟨u,hu,rfl⟩:=hs;rw [SV.Nz hk hg,SV.IZ hk];exact(HA.KA h hg).1 s u hu
theorem oe(h:HA fr nt ρ a){known:List BE}(hk: ∀b∈known,b.prop ρ){x:Operand}{b:BE}(hc:Hp fr known x=some b):a.eval x= .bool (b.den ρ):=by
 unfold Hp at hc;split at hc
 ·rename_i b' he;cases hc;rw [ej h.eval he,lY hk];rfl
 ·cases hc
theorem sX{all:Array Oper}{tmps:Array Value}{j d:Nat}{oj:Oper}(hj:all[j]? =some oj)(hd:oj.dst=some d){b:Bool}(hv:tmps.getD d undef= .bool b):
  yielded all tmps j=some b:=by
 unfold yielded;simp only [hj,Option.bind_some,hd];rw [adS]at hv;cases ht:tmps[d]? with
 | none=>rw [ht]at hv;cases hv
 | some v=>
  rw [ht]at hv;simp only [aee]at hv;subst hv;rfl
theorem mD{all:Array Oper}{tmps:Array Value}{j d:Nat}{oj:Oper}(hj:all[j]? =some oj)(hd:oj.dst=some d)(hv:tmps.getD d undef=undef):
  yielded all tmps j=none:=by
 unfold yielded;simp only [hj,Option.bind_some,hd];rw [adS]at hv;cases ht:tmps[d]? with
 | none=>rfl
 | some v=>
  rw [ht]at hv;simp only [aee]at hv;subst hv;rfl
theorem qS(h:HA fr nt ρ a){all:Array Oper}{o:Oper}{g:Option BE}(hg:guardOf all fr o=some g):
  Region.wanted o (yielded all a.tmps)=mv ρ g:=by
 unfold guardOf at hg;split at hg
 ·rename_i hn;cases hg;simp [Region.wanted,hn,mv]
 ·rename_i j want hn;split at hg
  ·rename_i oj hj;split at hg
   ·rename_i d hd;split at hg
    ·rename_i b hl;cases hg;have:=sX hj hd (h.aV d _ hl);simp only [Region.wanted,hn,this,mv];cases want
     ·simp only [Bool.false_eq_true,if_false,cX];cases b.den ρ<;>rfl
     ·simp only [if_true];cases b.den ρ<;>rfl
    ·rename_i c b hl;cases hg;have h1:=h.aV d _ hl;simp only [SV.val]at h1;simp only [Region.wanted,hn,mv,mO];cases hc:c.den ρ with
     | true=>
      rw [hc,if_pos rfl]at h1;rw [sX hj hd h1];cases want
      ·simp only [Bool.false_eq_true,if_false,cX,Bool.true_and];cases b.den ρ<;>rfl
      ·simp only [if_true,Bool.true_and];cases b.den ρ<;>rfl
     | false=>
      rw [hc,if_neg (by simp)]at h1;rw [mD hj hd h1];rfl
    ·rename_i hl;cases hg;rw [Region.wanted,hn];simp only [mD hj hd (h.aV d _ hl),mv,BE.den];rfl
    ·rename_i c hl;cases hg;have h1:=h.aV d _ hl;simp only [SV.val,ite_self]at h1;rw [Region.wanted,hn];simp only [mD hj hd h1,mv,BE.den];rfl
    ·cases hg
   ·cases hg
  ·cases hg
theorem jJ(h:HA fr nt ρ a){all:Array Oper}{known:List BE}(hk: ∀b∈known,b.prop ρ){o:Oper}{g:Option BE}(hg:qb all fr known o=some g):
  Region.wanted o (yielded all a.tmps)=mv ρ g:=by
 unfold qb at hg;split at hg
 ·rename_i b hb;rw [qS h hb];have hd:=lY hk b;split at hg
  ·rename_i he;cases hg;rw [he]at hd;exact hd.symm
  ·cases hg;exact hd.symm
 ·rw [qS h hg]
theorem wM{g:Option BE}{b:BE}(h:(TJ g b).prop ρ)(hg:mv ρ g=true):b.prop ρ:=by
 cases g with
 | none=>exact h
 | some c=>
  simp only [TJ,mv]at h hg;rw [←BE.bX,HM,cX,hg]at h;rw [←BE.bX];simpa using h
theorem KB{b:BE}(h:b.sure=true)(ρ:Env):b.den ρ=true:=by
 simp only [BE.sure,ai]at h;rw [y3 h.1];exact h.2
theorem gE{ax:Value→List HP→Prop}{g:Option BE}{known:List BE}{r:F}{L:Nat→LC}(hk: ∀b∈known,b.prop ρ): ∀{vcs:List BE},VC P ax (pN g vcs known r) ρ L→
  (mv ρ g=true→∀b∈vcs,b.prop ρ)∧VC P ax r ρ L
 | [],h=>⟨fun _ b hb=>(by cases hb),h⟩
 | b::bs,h=>by
  unfold pN at h;split at h
  ·rename_i hc;obtain⟨h1,h2⟩:=gE hk h;refine⟨fun hg x hx=>?_,h2⟩;rcases adW.1 hx with rfl | hx
   ·rw [Bool.or_eq_true,Bool.or_eq_true]at hc;rcases hc with(hc | hc) | hc
    ·rw [beq_iff_eq]at hc;exact wM (by rw [hc];rfl) hg
    ·exact wM (hk _ (by simpa using hc)) hg
    ·exact wM ((BE.bX _ _).1 (KB hc _)) hg
   ·exact h1 hg x hx
  ·simp only [VC,aw]at h;obtain⟨h1,h2⟩:=gE hk (h.2 h.1);refine⟨fun hg x hx=>?_,h2⟩;rcases adW.1 hx with rfl | hx
   ·exact wM h.1 hg
   ·exact h1 hg x hx
theorem vJ{look:Nat→Option SV}{α:Type}{f:α→Option SV}{g:α→Sem Value}(hf: ∀x v,f x=some v→(g x).run P w= .ok (v.val ρ) w): ∀(xs:List α) (vs:List SV),iS (xs.map f)=some vs→
  (xs.mapM g).run P w= .ok (SV.vals ρ vs) w
 | [],vs,he=>by simp [iS]at he;subst he;simp [SV.vals]
 | x::r,vs,he=>by
  simp only [adT]at he;cases hx:f x with
  | none=>rw [hx]at he;simp [iS]at he
  | some v=>
   rw [hx]at he;simp only [iS,adw]at he;obtain⟨rs,oD,rfl⟩:=he;have:=vJ (look:=look) hf r rs oD;simp [List.mapM_cons,hf x v hx,this,SV.vals]
def I0(tmps:Array Value):ResultVar→Sem Value
 | .tmp t=>pure (tmps.getD t undef)
 | .cell c t=>do loadVar t (←asAddr (tmps.getD c undef))
theorem y4(fn:Func)(tmps:Array Value):results fn tmps=(do let vs←fn.results.mapM (I0 tmps);pure (if h:vs.size=1 then vs[0]else .tuple vs)):=by
 unfold results;congr 2
theorem nV{T:List TI}(hT:bC P T=true){st:St}(hw:HW Fs w0 st ρ w)(ha:HA st.fr nt ρ a){fn:Func}{v:SV}(hv:yU T st fn=some v):
  (results fn a.tmps).run P w= .ok (v.val ρ) w:=by
 obtain⟨S,hS⟩:=hw.own;have one: ∀(x:ResultVar) (u:SV),CP T st x=some u→
   (I0 a.tmps x).run P w= .ok (u.val ρ) w:=by
  intro x u hx;unfold I0;cases x with
  | tmp t=>
   have:=ha.aV t u hx;simp only [this,ad_]
  | cell c t=>
   simp only [CP]at hx;split at hx
   ·rename_i ti y cF hy;split at hx
    ·rename_i r hr;split at hx
     ·rename_i he;cases hx;obtain⟨rfl,hi⟩:=aG hT cF;have cJ:Reads st.hp ρ w S r.rd:=by
       intro j _ ck hj;refine(hS.at_ j (ck.den ρ) ?_).1;rw [adz (by simpa using (adu.1 hj).1),List.getElem?_map,hj];rfl
      have h1:=(qD hi hr cJ (by rw [List.isEmpty_iff.1 he];intro b hb;cases hb)).1;have h2:=ha.aV c y hy;simp only [h2];unfold Instr.loadAt at h1;cases kx:y.val ρ with
      | pointer p=>
       cases p with
       | some ad=>
        rw [kx]at h1;simpa [Instr.sureAddr,asAddr] using h1
       | none=>rw [kx]at h1;simp [Instr.sureAddr]at h1
      | _=>rw [kx]at h1;simp [Instr.sureAddr]at h1
     ·cases hx
    ·cases hx
   ·cases hx
 unfold yU at hv;have key: ∀vs,iS (fn.results.toList.map (CP T st))=some vs→
   (fn.results.mapM (I0 a.tmps)).run P w= .ok (SV.vals ρ vs).toArray w:=by
  intro vs An;have:=vJ (look:=fun _=>none) one _ vs An;rw [Array.mapM_eq_mapM_toList];simp [this]
 split at hv
 ·rename_i u hu;cases hv;have:=key _ hu;rw [y4];simp only [adL];rw [this];simp [SV.vals]
 ·rename_i vs dR An;cases hv;have:=key _ An;rw [y4];simp only [adL];rw [this];have hl:(SV.vals ρ vs).length≠1:=by
   intro h1;have: ∀l:List SV,(SV.vals ρ l).length=l.length:=by
    intro l;induction l with
    | nil=>rfl
    | cons x r ih=>simp [SV.vals,ih]
   rw [this]at h1;obtain⟨x,rfl⟩:=List.length_eq_one_iff.1 h1;exact dR x rfl
  simp [hl,SV.val]
 ·cases hv
end
end Go.RX
