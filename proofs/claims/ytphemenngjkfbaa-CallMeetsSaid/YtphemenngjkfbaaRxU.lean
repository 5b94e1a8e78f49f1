/- Executor. -/
import Derived.Test.YtphemenngjkfbaaM15
open Array renaming getD_eq_getD_getElem? → ad3
open Bool renaming and_eq_true → ai
open Go.Sem renaming run_bind → adV, run_pure → aeb
open List renaming all_eq_true → adI, getElem?_append_left → adO, getElem?_eq_some_iff → adJ, map_cons → ad1, mem_filter → ad7
open Nat renaming blt_eq → adX
open Option renaming getD_some → aes, map_eq_some_iff → adM
namespace Go.RX
section
variable {P:Program} {ρ bC:Env} {a:Act} {w:World} {fr:List (Nat×SV)} {nt:NT}
theorem m7(d:Nat)(fr:List (Nat×SV))(s:Nat)(h:s≠d):look (fr.filter fun x=> !(x.1==d)) s=look fr s:=by
 induction fr with
 | nil=>rfl
 | cons x r ih=>
  obtain⟨t,v⟩:=x;by_cases ht:t=d
  ·subst ht;rw [List.filter_cons_of_neg (by simp),ih]
   conv=>rhs;unfold look
   rw [if_neg (by simp;exact Ne.symm h)]
  ·rw [List.filter_cons_of_pos (by simpa using ht)];unfold look;rw [ih]
theorem HA.put(h:HA fr nt ρ a){d:Option Nat}{v:SV}{u:Value}(hd: ∀x,d=some x→x<nt.n)(hv:u=v.val ρ)(st:St)(Re:st.fr=fr):
  HA (st.put d v).fr nt ρ (a.put d u):=by
 subst Re;cases d with
 | none=>exact h
 | some d=>
  have cK:=hd d rfl;refine⟨h.defers,by simpa [Act.put] using h.size,fun s x hs=>?_⟩;simp only [St.put]at hs;unfold look at hs;split at hs
  ·rename_i LG;rw [beq_iff_eq]at LG;subst LG;cases hs;have:=h.size;rw [←hv];simp only [Act.put];rw [ad3,Array.getElem?_setIfInBounds_self_of_lt (by omega)];rfl
  ·rename_i LG;have fc:s≠d:=fun e=>LG (by simp [e])
   rw [m7 d _ s fc]at hs;have:=h.aV s x hs;rw [←this];simp only [Act.put];rw [ad3,ad3,Array.getElem?_setIfInBounds_ne (Ne.symm fc)]
theorem dU(st:St)(d:Option Nat)(v:SV):(st.put d v).hp=st.hp∧(st.put d v).aQ=st.aQ∧(st.put d v).known=st.known∧(st.put d v).nt=st.nt∧(st.put d v).fn=st.fn:=by
 cases d<;>exact⟨rfl,rfl,rfl,rfl,rfl⟩
theorem TZ{c:cz}{st:St}{d:Option Nat}{v:SV}(h:kW c st.fr=true)(hv:v.sc c=true):kW c (st.put d v).fr=true:=by
 cases d with
 | none=>exact h
 | some d=>
  simp only [St.put,kW,List.all_cons,ai];exact⟨hv,adI.2 fun x hx=>adI.1 h x (ad7.1 hx).1⟩
variable {Fs:List HP} {w0:World}
theorem HW.put{st:St}(h:HW Fs w0 st ρ w){d:Option Nat}{v:SV}(hv:v.sc st.aQ=true):HW Fs w0 (st.put d v) ρ w:=by
 obtain⟨e1,e2,e3,e4,_⟩:=dU st d v;refine⟨by rw [e2];exact h.lens,by rw [e2];exact TZ h.kz hv,by rw [e1,e2];exact h.fg,by rw [e2,e3];exact h.nE,by rw [e3];exact h.kn,by rw [e1];exact h.own,h.same,by rw [e2,e4];exact h.lu⟩
theorem tN{c:cz}(ey:fU c ρ bC){ds:List MK}(h:ds.all (MK.sc c)=true):marks ρ ds=marks bC ds:=by
 unfold marks;congr 1;rw [List.flatMap_def,List.flatMap_def];congr 1;refine List.map_congr_left fun d hd=>?_
 have:=adI.1 h d hd;cases d<;>simp only [MK.sc,adX]at this<;>simp only [MK.blocks,ey.b _ this]
theorem HA.more(h:HA fr nt ρ a){c:cz}(iM:kW c fr=true)(RM:nt.ds.all (MK.sc c)=true)(ey:fU c ρ bC):HA fr nt bC a:=
 ⟨h.defers.trans (tN ey RM),h.size,fun s v hs=>by rw [h.aV s v hs];exact(SV.uP ey (BW iM hs)).1⟩
theorem HA.eval(h:HA fr nt ρ a):tj ρ (look fr) a.eval:=
 ⟨fun s v hs=>h.aV s v hs,fun _=>rfl,fun _=>rfl⟩
theorem SV.Q2{c:BE}(hc:c.den ρ=true)(v:SV):(v.HL c).val ρ=v.val ρ:=by
 unfold SV.HL;split
 ·rename_i c' v;split
  ·rename_i he;subst he;rw [SV.val,if_pos hc]
  ·split
   ·split
    ·rename_i he;subst he;simp only [SV.val,BE.den,hc,Bool.true_and]
    ·rfl
   ·rfl
 ·split
  ·rename_i b hb;subst hb;simp only [SV.val,hc,BE.den]
  ·rfl
 ·rfl
theorem SV.OL{c:BE}(hc:c.den ρ=false)(v:SV):(v.ru c).val ρ=v.val ρ:=by
 unfold SV.ru;split
 ·rename_i c' v;split
  ·rename_i he;subst he;simp [SV.val,hc]
  ·split
   ·split
    ·rename_i he;subst he;simp [SV.val,BE.den,hc]
    ·rfl
   ·rfl
 ·split
  ·rename_i b hb;subst hb;simp only [SV.val,hc,BE.den]
  ·rfl
 ·rfl
theorem SV.Q3{c:BE}{n:cz}{v:SV}(h:v.sc n=true):(v.ru c).sc n=true:=by
 unfold SV.ru;split
 ·rename_i c' v;split
  ·rfl
  ·split
   ·split
    ·rfl
    ·exact h
   ·exact h
 ·split
  ·rfl
  ·exact h
 ·exact h
theorem SV.T4{c:BE}{n:cz}{v:SV}(h:v.sc n=true):(v.HL c).sc n=true:=by
 unfold SV.HL;split
 ·rename_i c' v;simp only [SV.sc,ai]at h;split
  ·exact h.2
  ·split
   ·split
    ·have h1:=h.1;simp only [BE.sc,ai]at h1;simp only [SV.sc,ai];exact⟨h1.2,h.2⟩
    ·simp only [SV.sc,ai];exact h
   ·simp only [SV.sc,ai];exact h
 ·split
  ·rfl
  ·exact h
 ·exact h
theorem FD{f:SV→SV}{fr:List (Nat×SV)}{s:Nat}{v:SV}(h:look (fr.map fun x=>(x.1,f x.2)) s=some v): ∃u,look fr s=some u∧v=f u:=by
 induction fr with
 | nil=>cases h
 | cons x r ih=>
  obtain⟨t,u⟩:=x;have h':(if t==s then some (f u)else look (r.map fun x=>(x.1,f x.2)) s)=some v:=h;show∃u',(if t==s then some u else look r s)=some u'∧v=f u';split at h'
  ·rename_i ht;cases h';exact⟨u,by rw [if_pos ht],rfl⟩
  ·rename_i ht;obtain⟨u',h1,h2⟩:=ih h';exact⟨u',by rw [if_neg ht];exact h1,h2⟩
theorem HA.HL{st:St}(h:HA st.fr nt ρ a){c:BE}(hc:c.den ρ=true):HA (st.HL c).fr nt ρ a:=
 ⟨h.defers,h.size,fun s v hs=>by
  obtain⟨u,h1,rfl⟩:=FD (f:=SV.HL c) hs;rw [SV.Q2 hc];exact h.aV s u h1⟩
theorem HA.ru{st:St}(h:HA st.fr nt ρ a){c:BE}(hc:c.den ρ=false):HA (st.ru c).fr nt ρ a:=
 ⟨h.defers,h.size,fun s v hs=>by
  obtain⟨u,h1,rfl⟩:=FD (f:=SV.ru c) hs;rw [SV.OL hc];exact h.aV s u h1⟩
theorem HA.Lm(h:HA fr nt ρ a){c:BE}(hc:c.den ρ=true):tj ρ (under c (look fr)) a.eval:=by
 refine⟨fun s v hs=>?_,fun _=>rfl,fun _=>rfl⟩;unfold under at hs;split at hs
 ·rename_i c' v' hl;have:=h.aV s _ hl;split at hs
  ·rename_i he;subst he;cases hs;show a.tmps.getD s undef=_;rw [this,SV.val,if_pos hc]
  ·split at hs
   ·rename_i x y _;split at hs
    ·rename_i he;subst he;cases hs;show a.tmps.getD s undef=_;rw [this];simp only [SV.val,BE.den,hc,Bool.true_and]
    ·cases hs;exact this
   ·cases hs;exact this
 ·exact h.aV s v hs
theorem oO{b:BE}(h:b.sc {}=true)(ρ:Env):b.den ρ=b.den ss:=by
 have e:fU {} ρ {ρ with iv:=[],av:=[],bo:=[],bv:=[],vv:=[],pv:=[],lr:=[]}:=by
  constructor<;>first | rfl | (intro i hi;simp at hi)
 rw [BE.bR e h];clear h e;have key: ∀(x:E) (j:Nat),x.den {ρ with iv:=[],av:=[],bo:=[],bv:=[],vv:=[],pv:=[],lr:=[]} j=x.den ss j:=by
  intro x
  induction x with
  | lit n=>intro j;rfl
  | var i=>intro j;rfl
  | aw i=>intro j;rfl
  | iX a i ha hi=>intro j;simp only [E.den,ha,hi]
  | bin o k a b ha hb=>intro j;simp only [E.den,ha,hb]
  | wrap k a ha=>intro j;simp only [E.den,ha]
  | cV a i v ha hi hv=>intro j;simp only [E.den,ha,hi,hv]
  | shift a o ha ho=>intro j;simp only [E.den,ha,ho]
  | BD a o n b ha ho hn hb=>intro j;simp only [E.den,ha,ho,hn,hb]
  | s5 b=>intro j;rfl
  | kc n a ha=>intro j;simp only [E.den];rw [List.map_congr_left fun i _=>ha i]
  | pk l=>intro j;rfl
  | Pl a i ha hi=>intro j;simp only [E.den,po,ha,hi]
  | pF a i s ha hi hs=>intro j;simp only [E.den,C7,ha,hi,hs]
  | Q6 s hs=>intro j;simp only [E.den,Jo,hs]
 have ZU: ∀x:E,x.den {ρ with iv:=[],av:=[],bo:=[],bv:=[],vv:=[],pv:=[],lr:=[]}=x.den ss:=fun x=>funext (key x)
 induction b with
 | lit b=>rfl
 | var i=>rfl
 | eq a b=>simp only [BE.den,key]
 | lt a b=>simp only [BE.den,key]
 | le a b=>simp only [BE.den,key]
 | nz a=>simp only [BE.den,key]
 | Q7 n a b=>simp only [BE.den,key]
 | not a ih=>simp only [BE.den,ih]
 | and a b lF rU=>simp only [BE.den,lF,rU]
 | or a b lF rU=>simp only [BE.den,lF,rU]
 | ite c t e XP O2 O3=>simp only [BE.den,XP,O2,O3]
 | seq a b=>simp only [BE.den,ZU]
theorem m8{known:List BE}(hk: ∀b∈known,b.prop ρ)(b:BE):(q_ known b).den ρ=b.den ρ:=by
 unfold q_;split
 ·rfl
 ·split
  ·rename_i hc;exact(oO hc ρ).symm
  split
  ·rename_i hc;have:=hk b (by simpa using hc);rw [←BE.bY]at this;rw [this];rfl
  ·split
   ·rename_i hc;have:=hk (iE b) (by simpa using hc);rw [←BE.bY,dh]at this;simp only [BE.den];cases hb:b.den ρ
    ·rfl
    ·rw [hb]at this;cases this
   ·rfl
theorem SV.Je{known:List BE}(hk: ∀b∈known,b.prop ρ)(v:SV):(v.fix known).val ρ=v.val ρ:=by
 unfold SV.fix;split
 ·rename_i c v;have hd:=m8 hk c;split
  ·rename_i e;rw [e]at hd;simp [SV.val,←hd,BE.den]
  ·rename_i e;rw [e]at hd;simp [SV.val,←hd,BE.den]
  ·rfl
 ·rename_i b;simp only [SV.val,m8 hk b]
 ·rfl
theorem SV.OM{known:List BE}(hk: ∀b∈known,b.prop ρ){c:BE}(hc:c.den ρ=true)(v:SV):(v.TQ c known).val ρ=v.val ρ:=by
 have key: ∀b:BE,known.contains (iE (z4 c b))=true→b.den ρ=false:=by
  intro b hb;have:=hk _ (by simpa using hb);rw [←BE.bY,dh,nJ,hc]at this;simpa using this
 unfold SV.TQ;split
 ·split
  ·rename_i b hb;simp only [SV.val,key b hb,BE.den]
  ·rfl
 ·split
  ·rename_i b v hb;simp [SV.val,key b hb]
  ·rfl
 ·rfl
theorem HA.uT(h:HA fr nt ρ a){known:List BE}(hk: ∀b∈known,b.prop ρ){g:Option BE}(hg:ns ρ g=true):tj ρ (AX g known fr) a.eval:=by
 refine⟨fun s v hs=>?_,fun _=>rfl,fun _=>rfl⟩;cases g with
 | none=>
  simp only [AX,adM]at hs;obtain⟨u,hu,rfl⟩:=hs;rw [SV.Je hk];exact h.aV s u hu
 | some c=>
  simp only [AX,adM]at hs;obtain⟨u,hu,rfl⟩:=hs;rw [SV.OM hk hg,SV.Je hk];exact(HA.Lm h hg).1 s u hu
theorem oY(h:HA fr nt ρ a){known:List BE}(hk: ∀b∈known,b.prop ρ){x:Operand}{b:BE}(hc:HM fr known x=some b):a.eval x= .bool (b.den ρ):=by
 unfold HM at hc;split at hc
 ·rename_i b' he;cases hc;rw [eL h.eval he,m8 hk];rfl
 ·cases hc
theorem um{all:Array Oper}{tmps:Array Value}{j d:Nat}{oj:Oper}(hj:all[j]? =some oj)(hd:oj.dst=some d){b:Bool}(hv:tmps.getD d undef= .bool b):
  yielded all tmps j=some b:=by
 unfold yielded;simp only [hj,Option.bind_some,hd];rw [ad3]at hv;cases ht:tmps[d]? with
 | none=>rw [ht]at hv;cases hv
 | some v=>
  rw [ht]at hv;simp only [aes]at hv;subst hv;rfl
theorem nC{all:Array Oper}{tmps:Array Value}{j d:Nat}{oj:Oper}(hj:all[j]? =some oj)(hd:oj.dst=some d)(hv:tmps.getD d undef=undef):
  yielded all tmps j=none:=by
 unfold yielded;simp only [hj,Option.bind_some,hd];rw [ad3]at hv;cases ht:tmps[d]? with
 | none=>rfl
 | some v=>
  rw [ht]at hv;simp only [aes]at hv;subst hv;rfl
theorem rT(h:HA fr nt ρ a){all:Array Oper}{o:Oper}{g:Option BE}(hg:guardOf all fr o=some g):
  Region.wanted o (yielded all a.tmps)=ns ρ g:=by
 unfold guardOf at hg;split at hg
 ·rename_i hn;cases hg;simp [Region.wanted,hn,ns]
 ·rename_i j want hn;split at hg
  ·rename_i oj hj;split at hg
   ·rename_i d hd;split at hg
    ·rename_i b hl;cases hg;have:=um hj hd (h.aV d _ hl);simp only [Region.wanted,hn,this,ns];cases want
     ·simp only [Bool.false_eq_true,if_false,dh];cases b.den ρ<;>rfl
     ·simp only [if_true];cases b.den ρ<;>rfl
    ·rename_i c b hl;cases hg;have h1:=h.aV d _ hl;simp only [SV.val]at h1;simp only [Region.wanted,hn,ns,nJ];cases hc:c.den ρ with
     | true=>
      rw [hc,if_pos rfl]at h1;rw [um hj hd h1];cases want
      ·simp only [Bool.false_eq_true,if_false,dh,Bool.true_and];cases b.den ρ<;>rfl
      ·simp only [if_true,Bool.true_and];cases b.den ρ<;>rfl
     | false=>
      rw [hc,if_neg (by simp)]at h1;rw [nC hj hd h1];rfl
    ·rename_i hl;cases hg;rw [Region.wanted,hn];simp only [nC hj hd (h.aV d _ hl),ns,BE.den];rfl
    ·rename_i c hl;cases hg;have h1:=h.aV d _ hl;simp only [SV.val,ite_self]at h1;rw [Region.wanted,hn];simp only [nC hj hd h1,ns,BE.den];rfl
    ·cases hg
   ·cases hg
  ·cases hg
theorem jY(h:HA fr nt ρ a){all:Array Oper}{known:List BE}(hk: ∀b∈known,b.prop ρ){o:Oper}{g:Option BE}(hg:qN all fr known o=some g):
  Region.wanted o (yielded all a.tmps)=ns ρ g:=by
 unfold qN at hg;split at hg
 ·rename_i b hb;rw [rT h hb];have hd:=m8 hk b;split at hg
  ·rename_i he;cases hg;rw [he]at hd;exact hd.symm
  ·cases hg;exact hd.symm
 ·rw [rT h hg]
theorem xL{g:Option BE}{b:BE}(h:(Uo g b).prop ρ)(hg:ns ρ g=true):b.prop ρ:=by
 cases g with
 | none=>exact h
 | some c=>
  simp only [Uo,ns]at h hg;rw [←BE.bY,H5,dh,hg]at h;rw [←BE.bY];simpa using h
theorem uW{b:BE}(h:b.sure=true)(ρ:Env):b.den ρ=true:=by
 simp only [BE.sure,ai]at h;rw [oO h.1];exact h.2
theorem gW{ao:Value→List HP→Prop}{g:Option BE}{known:List BE}{r:F}{L:Nat→LC}(hk: ∀b∈known,b.prop ρ): ∀{vcs:List BE},VC P ao (qu g vcs known r) ρ L→
  (ns ρ g=true→∀b∈vcs,b.prop ρ)∧VC P ao r ρ L
 | [],h=>⟨fun _ b hb=>(by cases hb),h⟩
 | b::bs,h=>by
  unfold qu at h;split at h
  ·rename_i hc;obtain⟨h1,h2⟩:=gW hk h;refine⟨fun hg x hx=>?_,h2⟩;rcases List.mem_cons.1 hx with rfl | hx
   ·rw [Bool.or_eq_true,Bool.or_eq_true]at hc;rcases hc with(hc | hc) | hc
    ·rw [beq_iff_eq]at hc;exact xL (by rw [hc];rfl) hg
    ·exact xL (hk _ (by simpa using hc)) hg
    ·exact xL ((BE.bY _ _).1 (uW hc _)) hg
   ·exact h1 hg x hx
  ·simp only [VC,aM]at h;obtain⟨h1,h2⟩:=gW hk (h.2 h.1);refine⟨fun hg x hx=>?_,h2⟩;rcases List.mem_cons.1 hx with rfl | hx
   ·exact xL h.1 hg
   ·exact h1 hg x hx
theorem wv{look:Nat→Option SV}{α:Type}{f:α→Option SV}{g:α→Sem Value}(hf: ∀x v,f x=some v→(g x).run P w= .ok (v.val ρ) w): ∀(xs:List α) (vs:List SV),jg (xs.map f)=some vs→
  (xs.mapM g).run P w= .ok (SV.bK ρ vs) w
 | [],vs,he=>by simp [jg]at he;subst he;simp [SV.bK]
 | x::r,vs,he=>by
  simp only [ad1]at he;cases hx:f x with
  | none=>rw [hx]at he;simp [jg]at he
  | some v=>
   rw [hx]at he;simp only [jg,adM]at he;obtain⟨rs,X6,rfl⟩:=he;have:=wv (look:=look) hf r rs X6;simp [List.mapM_cons,hf x v hx,this,SV.bK]
def Jf(tmps:Array Value):ResultVar→Sem Value
 | .tmp t=>pure (tmps.getD t undef)
 | .cell c t=>do loadVar t (←asAddr (tmps.getD c undef))
theorem zP(fn:Func)(tmps:Array Value):results fn tmps=(do let vs←fn.results.mapM (Jf tmps);pure (if h:vs.size=1 then vs[0]else .tuple vs)):=by
 unfold results;congr 2
theorem oN{T:List TI}(hT:bw P T=true){st:St}(hw:HW Fs w0 st ρ w)(ha:HA st.fr nt ρ a){fn:Func}{v:SV}(hv:zE T st fn=some v):
  (results fn a.tmps).run P w= .ok (v.val ρ) w:=by
 obtain⟨S,hS⟩:=hw.own;have one: ∀(x:ResultVar) (u:SV),CN T st x=some u→
   (Jf a.tmps x).run P w= .ok (u.val ρ) w:=by
  intro x u hx;unfold Jf;cases x with
  | tmp t=>
   have:=ha.aV t u hx;simp only [this,aeb]
  | cell c t=>
   simp only [CN]at hx;split at hx
   ·rename_i ti y cN hy;split at hx
    ·rename_i r hr;split at hx
     ·rename_i he;cases hx;obtain⟨rfl,hi⟩:=ay hT cN;have cU:Reads st.hp ρ w S r.rd:=by
       intro j _ ck hj;refine(hS.at_ j (ck.den ρ) ?_).1;rw [adO (by simpa using (adJ.1 hj).1),List.getElem?_map,hj];rfl
      have h1:=(rB hi hr cU (by rw [List.isEmpty_iff.1 he];intro b hb;cases hb)).1;have h2:=ha.aV c y hy;simp only [h2];unfold Instr.loadAt at h1;cases pe:y.val ρ with
      | pointer p=>
       cases p with
       | some ad=>
        rw [pe]at h1;simpa [Instr.sureAddr,asAddr] using h1
       | none=>rw [pe]at h1;simp [Instr.sureAddr]at h1
      | _=>rw [pe]at h1;simp [Instr.sureAddr]at h1
     ·cases hx
    ·cases hx
   ·cases hx
 unfold zE at hv;have key: ∀vs,jg (fn.results.toList.map (CN T st))=some vs→
   (fn.results.mapM (Jf a.tmps)).run P w= .ok (SV.bK ρ vs).toArray w:=by
  intro vs H_;have:=wv (look:=fun _=>none) one _ vs H_;rw [Array.mapM_eq_mapM_toList];simp [this]
 split at hv
 ·rename_i u hu;cases hv;have:=key _ hu;rw [zP];simp only [adV];rw [this];simp [SV.bK]
 ·rename_i vs fc H_;cases hv;have:=key _ H_;rw [zP];simp only [adV];rw [this];have hl:(SV.bK ρ vs).length≠1:=by
   intro h1;have: ∀l:List SV,(SV.bK ρ l).length=l.length:=by
    intro l;induction l with
    | nil=>rfl
    | cons x r ih=>simp [SV.bK,ih]
   rw [this]at h1;obtain⟨x,rfl⟩:=List.length_eq_one_iff.1 h1;exact fc x rfl
  simp [hl,SV.val]
 ·cases hv
end
end Go.RX
