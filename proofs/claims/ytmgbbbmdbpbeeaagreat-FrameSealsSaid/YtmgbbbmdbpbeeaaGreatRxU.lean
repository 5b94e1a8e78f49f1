/- Executor. -/
import Derived.Test.YtmgbbbmdbpbeeaaGreatM15
open Array renaming getD_eq_getD_getElem? → afi
open Bool renaming and_eq_true → ai
open Go.Sem renaming run_bind → afa, run_pure → afs
open List renaming all_eq_true → aeT, getElem?_append_left → ae1, getElem?_eq_some_iff → aeV, map_cons → afj, mem_cons → afd, mem_filter → afk
open Nat renaming blt_eq → afb
open Option renaming getD_some → afG, map_eq_some_iff → aeY
namespace Go.RX
section
variable {P:Program} {ρ bI:Env} {a:Act} {w:World} {fr:List (Nat×SV)} {nt:NT}
theorem mc(d:Nat)(fr:List (Nat×SV))(s:Nat)(h:s≠d):look (fr.filter fun x=> !(x.1==d)) s=look fr s:=by
 induction fr with
 | nil=>rfl
 | cons x r ih=>
  obtain⟨t,v⟩:=x;by_cases ht:t=d
  ·subst ht;rw [List.filter_cons_of_neg (by simp),ih]
   conv=>rhs;unfold look
   rw [if_neg (by simp;exact Ne.symm h)]
  ·rw [List.filter_cons_of_pos (by simpa using ht)];unfold look;rw [ih]
theorem HA.put(h:HA fr nt ρ a){d:Option Nat}{v:SV}{u:Value}(hd: ∀x,d=some x→x<nt.n)(hv:u=v.val ρ)(st:St)(RN:st.fr=fr):
  HA (st.put d v).fr nt ρ (a.put d u):=by
 subst RN;cases d with
 | none=>exact h
 | some d=>
  have bU:=hd d rfl;refine⟨h.defers,by simpa [Act.put] using h.size,fun s x hs=>?_⟩;simp only [St.put]at hs;unfold look at hs;split at hs
  ·rename_i Li;rw [beq_iff_eq]at Li;subst Li;cases hs;have:=h.size;rw [←hv];simp only [Act.put];rw [afi,Array.getElem?_setIfInBounds_self_of_lt (by omega)];rfl
  ·rename_i Li;have eZ:s≠d:=fun e=>Li (by simp [e])
   rw [mc d _ s eZ]at hs;have:=h.aT s x hs;rw [←this];simp only [Act.put];rw [afi,afi,Array.getElem?_setIfInBounds_ne (Ne.symm eZ)]
theorem dR(st:St)(d:Option Nat)(v:SV):(st.put d v).hp=st.hp∧(st.put d v).bd=st.bd∧(st.put d v).known=st.known∧(st.put d v).nt=st.nt∧(st.put d v).fn=st.fn:=by
 cases d<;>exact⟨rfl,rfl,rfl,rfl,rfl⟩
theorem Uy{c:cP}{st:St}{d:Option Nat}{v:SV}(h:kH c st.fr=true)(hv:v.sc c=true):kH c (st.put d v).fr=true:=by
 cases d with
 | none=>exact h
 | some d=>
  simp only [St.put,kH,List.all_cons,ai];exact⟨hv,aeT.2 fun x hx=>aeT.1 h x (afk.1 hx).1⟩
variable {Fs:List HP} {w0:World}
theorem HW.put{st:St}(h:HW Fs w0 st ρ w){d:Option Nat}{v:SV}(hv:v.sc st.bd=true):HW Fs w0 (st.put d v) ρ w:=by
 obtain⟨e1,e2,e3,e4,_⟩:=dR st d v;refine⟨by rw [e2];exact h.lens,by rw [e2];exact Uy h.kd hv,by rw [e1,e2];exact h.fm,by rw [e2,e3];exact h.mL,by rw [e3];exact h.kn,by rw [e1];exact h.own,h.same,by rw [e2,e4];exact h.kS⟩
theorem sP{c:cP}(eD:fQ c ρ bI){ds:List MK}(h:ds.all (MK.sc c)=true):marks ρ ds=marks bI ds:=by
 unfold marks;congr 1;rw [List.flatMap_def,List.flatMap_def];congr 1;refine List.map_congr_left fun d hd=>?_
 have:=aeT.1 h d hd;cases d<;>simp only [MK.sc,afb]at this<;>simp only [MK.blocks,eD.b _ this]
theorem HA.more(h:HA fr nt ρ a){c:cP}(iJ:kH c fr=true)(Sm:nt.ds.all (MK.sc c)=true)(eD:fQ c ρ bI):HA fr nt bI a:=
 ⟨h.defers.trans (sP eD Sm),h.size,fun s v hs=>by rw [h.aT s v hs];exact(SV.tY eD (Bx iJ hs)).1⟩
theorem HA.eval(h:HA fr nt ρ a):so ρ (look fr) a.eval:=
 ⟨fun s v hs=>h.aT s v hs,fun _=>rfl,fun _=>rfl⟩
theorem SV.Rr{c:BE}(hc:c.den ρ=true)(v:SV):(v.Hb c).val ρ=v.val ρ:=by
 unfold SV.Hb;split
 ·rename_i c' v;split
  ·rename_i he;subst he;rw [SV.val,if_pos hc]
  ·split
   ·split
    ·rename_i he;subst he;simp only [SV.val,BE.den,hc,Bool.true_and]
    ·rfl
   ·rfl
 ·split
  ·rename_i b hb;subst hb;simp only [SV.val,hc,BE.den]
  ·rfl
 ·rfl
theorem SV.Om{c:BE}(hc:c.den ρ=false)(v:SV):(v.qA c).val ρ=v.val ρ:=by
 unfold SV.qA;split
 ·rename_i c' v;split
  ·rename_i he;subst he;simp [SV.val,hc]
  ·split
   ·split
    ·rename_i he;subst he;simp [SV.val,BE.den,hc]
    ·rfl
   ·rfl
 ·split
  ·rename_i b hb;subst hb;simp only [SV.val,hc,BE.den]
  ·rfl
 ·rfl
theorem SV.Rs{c:BE}{n:cP}{v:SV}(h:v.sc n=true):(v.qA c).sc n=true:=by
 unfold SV.qA;split
 ·rename_i c' v;split
  ·rfl
  ·split
   ·split
    ·rfl
    ·exact h
   ·exact h
 ·split
  ·rfl
  ·exact h
 ·exact h
theorem SV.Uz{c:BE}{n:cP}{v:SV}(h:v.sc n=true):(v.Hb c).sc n=true:=by
 unfold SV.Hb;split
 ·rename_i c' v;simp only [SV.sc,ai]at h;split
  ·exact h.2
  ·split
   ·split
    ·have h1:=h.1;simp only [BE.sc,ai]at h1;simp only [SV.sc,ai];exact⟨h1.2,h.2⟩
    ·simp only [SV.sc,ai];exact h
   ·simp only [SV.sc,ai];exact h
 ·split
  ·rfl
  ·exact h
 ·exact h
theorem Fp{f:SV→SV}{fr:List (Nat×SV)}{s:Nat}{v:SV}(h:look (fr.map fun x=>(x.1,f x.2)) s=some v): ∃u,look fr s=some u∧v=f u:=by
 induction fr with
 | nil=>cases h
 | cons x r ih=>
  obtain⟨t,u⟩:=x;have h':(if t==s then some (f u)else look (r.map fun x=>(x.1,f x.2)) s)=some v:=h;show∃u',(if t==s then some u else look r s)=some u'∧v=f u';split at h'
  ·rename_i ht;cases h';exact⟨u,by rw [if_pos ht],rfl⟩
  ·rename_i ht;obtain⟨u',h1,h2⟩:=ih h';exact⟨u',by rw [if_neg ht];exact h1,h2⟩
theorem HA.Hb{st:St}(h:HA st.fr nt ρ a){c:BE}(hc:c.den ρ=true):HA (st.Hb c).fr nt ρ a:=
 ⟨h.defers,h.size,fun s v hs=>by
  obtain⟨u,h1,rfl⟩:=Fp (f:=SV.Hb c) hs;rw [SV.Rr hc];exact h.aT s u h1⟩
theorem HA.qA{st:St}(h:HA st.fr nt ρ a){c:BE}(hc:c.den ρ=false):HA (st.qA c).fr nt ρ a:=
 ⟨h.defers,h.size,fun s v hs=>by
  obtain⟨u,h1,rfl⟩:=Fp (f:=SV.qA c) hs;rw [SV.Om hc];exact h.aT s u h1⟩
theorem HA.KP(h:HA fr nt ρ a){c:BE}(hc:c.den ρ=true):so ρ (under c (look fr)) a.eval:=by
 refine⟨fun s v hs=>?_,fun _=>rfl,fun _=>rfl⟩;unfold under at hs;split at hs
 ·rename_i c' v' hl;have:=h.aT s _ hl;split at hs
  ·rename_i he;subst he;cases hs;show a.tmps.getD s undef=_;rw [this,SV.val,if_pos hc]
  ·split at hs
   ·rename_i x y _;split at hs
    ·rename_i he;subst he;cases hs;show a.tmps.getD s undef=_;rw [this];simp only [SV.val,BE.den,hc,Bool.true_and]
    ·cases hs;exact this
   ·cases hs;exact this
 ·exact h.aT s v hs
theorem yN{b:BE}(h:b.sc {}=true)(ρ:Env):b.den ρ=b.den Od:=by
 have e:fQ {} ρ {ρ with iv:=[],av:=[],bo:=[],bv:=[],vv:=[],pv:=[],lr:=[]}:=by
  constructor<;>first | rfl | (intro i hi;simp at hi)
 rw [BE.bQ e h];clear h e;have key: ∀(x:E) (j:Nat),x.den {ρ with iv:=[],av:=[],bo:=[],bv:=[],vv:=[],pv:=[],lr:=[]} j=x.den Od j:=by
  intro x
  induction x with
  | lit n=>intro j;rfl
  | var i=>intro j;rfl
  | aL i=>intro j;rfl
  | OL a i ha hi=>intro j;simp only [E.den,ha,hi]
  | bin o k a b ha hb=>intro j;simp only [E.den,ha,hb]
  | wrap k a ha=>intro j;simp only [E.den,ha]
  | r9 a i v ha hi hv=>intro j;simp only [E.den,ha,hi,hv]
  | shift a o ha ho=>intro j;simp only [E.den,ha,ho]
  | tw a o n b ha ho hn hb=>intro j;simp only [E.den,ha,ho,hn,hb]
  | mR b=>intro j;rfl
  | kc n a ha=>intro j;simp only [E.den];rw [List.map_congr_left fun i _=>ha i]
  | qt l=>intro j;rfl
  | PI a i ha hi=>intro j;simp only [E.den,oI,ha,hi]
  | o4 a i s ha hi hs=>intro j;simp only [E.den,Dv,ha,hi,hs]
  | RF s hs=>intro j;simp only [E.den,Jy,hs]
 have Z7: ∀x:E,x.den {ρ with iv:=[],av:=[],bo:=[],bv:=[],vv:=[],pv:=[],lr:=[]}=x.den Od:=fun x=>funext (key x)
 induction b with
 | lit b=>rfl
 | var i=>rfl
 | eq a b=>simp only [BE.den,key]
 | lt a b=>simp only [BE.den,key]
 | le a b=>simp only [BE.den,key]
 | nz a=>simp only [BE.den,key]
 | RG n a b=>simp only [BE.den,key]
 | not a ih=>simp only [BE.den,ih]
 | and a b lG r_=>simp only [BE.den,lG,r_]
 | or a b lG r_=>simp only [BE.den,lG,r_]
 | ite c t e Yg S3 S4=>simp only [BE.den,Yg,S3,S4]
 | seq a b=>simp only [BE.den,Z7]
theorem mf{known:List BE}(hk: ∀b∈known,b.prop ρ)(b:BE):(qn known b).den ρ=b.den ρ:=by
 unfold qn;split
 ·rfl
 ·split
  ·rename_i hc;exact(yN hc ρ).symm
  split
  ·rename_i hc;have:=hk b (by simpa using hc);rw [←BE.cc]at this;rw [this];rfl
  ·split
   ·rename_i hc;have:=hk (iZ b) (by simpa using hc);rw [←BE.cc,df]at this;simp only [BE.den];cases hb:b.den ρ
    ·rfl
    ·rw [hb]at this;cases this
   ·rfl
theorem SV.I4{known:List BE}(hk: ∀b∈known,b.prop ρ)(v:SV):(v.fix known).val ρ=v.val ρ:=by
 unfold SV.fix;split
 ·rename_i c v;have hd:=mf hk c;split
  ·rename_i e;rw [e]at hd;simp [SV.val,←hd,BE.den]
  ·rename_i e;rw [e]at hd;simp [SV.val,←hd,BE.den]
  ·rfl
 ·rename_i b;simp only [SV.val,mf hk b]
 ·rfl
theorem SV.On{known:List BE}(hk: ∀b∈known,b.prop ρ){c:BE}(hc:c.den ρ=true)(v:SV):(v.Ur c known).val ρ=v.val ρ:=by
 have key: ∀b:BE,known.contains (iZ (y_ c b))=true→b.den ρ=false:=by
  intro b hb;have:=hk _ (by simpa using hb);rw [←BE.cc,df,mW,hc]at this;simpa using this
 unfold SV.Ur;split
 ·split
  ·rename_i b hb;simp only [SV.val,key b hb,BE.den]
  ·rfl
 ·split
  ·rename_i b v hb;simp [SV.val,key b hb]
  ·rfl
 ·rfl
theorem HA.uc(h:HA fr nt ρ a){known:List BE}(hk: ∀b∈known,b.prop ρ){g:Option BE}(hg:mC ρ g=true):so ρ (Av g known fr) a.eval:=by
 refine⟨fun s v hs=>?_,fun _=>rfl,fun _=>rfl⟩;cases g with
 | none=>
  simp only [Av,aeY]at hs;obtain⟨u,hu,rfl⟩:=hs;rw [SV.I4 hk];exact h.aT s u hu
 | some c=>
  simp only [Av,aeY]at hs;obtain⟨u,hu,rfl⟩:=hs;rw [SV.On hk hg,SV.I4 hk];exact(HA.KP h hg).1 s u hu
theorem oq(h:HA fr nt ρ a){known:List BE}(hk: ∀b∈known,b.prop ρ){x:Operand}{b:BE}(hc:Hc fr known x=some b):a.eval x= .bool (b.den ρ):=by
 unfold Hc at hc;split at hc
 ·rename_i b' he;cases hc;rw [eP h.eval he,mf hk];rfl
 ·cases hc
theorem tg{all:Array Oper}{tmps:Array Value}{j d:Nat}{oj:Oper}(hj:all[j]? =some oj)(hd:oj.dst=some d){b:Bool}(hv:tmps.getD d undef= .bool b):
  yielded all tmps j=some b:=by
 unfold yielded;simp only [hj,Option.bind_some,hd];rw [afi]at hv;cases ht:tmps[d]? with
 | none=>rw [ht]at hv;cases hv
 | some v=>
  rw [ht]at hv;simp only [afG]at hv;subst hv;rfl
theorem mI{all:Array Oper}{tmps:Array Value}{j d:Nat}{oj:Oper}(hj:all[j]? =some oj)(hd:oj.dst=some d)(hv:tmps.getD d undef=undef):
  yielded all tmps j=none:=by
 unfold yielded;simp only [hj,Option.bind_some,hd];rw [afi]at hv;cases ht:tmps[d]? with
 | none=>rfl
 | some v=>
  rw [ht]at hv;simp only [afG]at hv;subst hv;rfl
theorem qV(h:HA fr nt ρ a){all:Array Oper}{o:Oper}{g:Option BE}(hg:guardOf all fr o=some g):
  Region.wanted o (yielded all a.tmps)=mC ρ g:=by
 unfold guardOf at hg;split at hg
 ·rename_i hn;cases hg;simp [Region.wanted,hn,mC]
 ·rename_i j want hn;split at hg
  ·rename_i oj hj;split at hg
   ·rename_i d hd;split at hg
    ·rename_i b hl;cases hg;have:=tg hj hd (h.aT d _ hl);simp only [Region.wanted,hn,this,mC];cases want
     ·simp only [Bool.false_eq_true,if_false,df];cases b.den ρ<;>rfl
     ·simp only [if_true];cases b.den ρ<;>rfl
    ·rename_i c b hl;cases hg;have h1:=h.aT d _ hl;simp only [SV.val]at h1;simp only [Region.wanted,hn,mC,mW];cases hc:c.den ρ with
     | true=>
      rw [hc,if_pos rfl]at h1;rw [tg hj hd h1];cases want
      ·simp only [Bool.false_eq_true,if_false,df,Bool.true_and];cases b.den ρ<;>rfl
      ·simp only [if_true,Bool.true_and];cases b.den ρ<;>rfl
     | false=>
      rw [hc,if_neg (by simp)]at h1;rw [mI hj hd h1];rfl
    ·rename_i hl;cases hg;rw [Region.wanted,hn];simp only [mI hj hd (h.aT d _ hl),mC,BE.den];rfl
    ·rename_i c hl;cases hg;have h1:=h.aT d _ hl;simp only [SV.val,ite_self]at h1;rw [Region.wanted,hn];simp only [mI hj hd h1,mC,BE.den];rfl
    ·cases hg
   ·cases hg
  ·cases hg
theorem jK(h:HA fr nt ρ a){all:Array Oper}{known:List BE}(hk: ∀b∈known,b.prop ρ){o:Oper}{g:Option BE}(hg:qd all fr known o=some g):
  Region.wanted o (yielded all a.tmps)=mC ρ g:=by
 unfold qd at hg;split at hg
 ·rename_i b hb;rw [qV h hb];have hd:=mf hk b;split at hg
  ·rename_i he;cases hg;rw [he]at hd;exact hd.symm
  ·cases hg;exact hd.symm
 ·rw [qV h hg]
theorem wO{g:Option BE}{b:BE}(h:(UU g b).prop ρ)(hg:mC ρ g=true):b.prop ρ:=by
 cases g with
 | none=>exact h
 | some c=>
  simp only [UU,mC]at h hg;rw [←BE.cc,HO,df,hg]at h;rw [←BE.cc];simpa using h
theorem KQ{b:BE}(h:b.sure=true)(ρ:Env):b.den ρ=true:=by
 simp only [BE.sure,ai]at h;rw [yN h.1];exact h.2
theorem gQ{ar:Value→List HP→Prop}{g:Option BE}{known:List BE}{r:F}{L:Nat→LC}(hk: ∀b∈known,b.prop ρ): ∀{vcs:List BE},VC P ar (pQ g vcs known r) ρ L→
  (mC ρ g=true→∀b∈vcs,b.prop ρ)∧VC P ar r ρ L
 | [],h=>⟨fun _ b hb=>(by cases hb),h⟩
 | b::bs,h=>by
  unfold pQ at h;split at h
  ·rename_i hc;obtain⟨h1,h2⟩:=gQ hk h;refine⟨fun hg x hx=>?_,h2⟩;rcases afd.1 hx with rfl | hx
   ·rw [Bool.or_eq_true,Bool.or_eq_true]at hc;rcases hc with(hc | hc) | hc
    ·rw [beq_iff_eq]at hc;exact wO (by rw [hc];rfl) hg
    ·exact wO (hk _ (by simpa using hc)) hg
    ·exact wO ((BE.cc _ _).1 (KQ hc _)) hg
   ·exact h1 hg x hx
  ·simp only [VC,ao]at h;obtain⟨h1,h2⟩:=gQ hk (h.2 h.1);refine⟨fun hg x hx=>?_,h2⟩;rcases afd.1 hx with rfl | hx
   ·exact wO h.1 hg
   ·exact h1 hg x hx
theorem vF{look:Nat→Option SV}{α:Type}{f:α→Option SV}{g:α→Sem Value}(hf: ∀x v,f x=some v→(g x).run P w= .ok (v.val ρ) w): ∀(xs:List α) (vs:List SV),jc (xs.map f)=some vs→
  (xs.mapM g).run P w= .ok (SV.vals ρ vs) w
 | [],vs,he=>by simp [jc]at he;subst he;simp [SV.vals]
 | x::r,vs,he=>by
  simp only [afj]at he;cases hx:f x with
  | none=>rw [hx]at he;simp [jc]at he
  | some v=>
   rw [hx]at he;simp only [jc,aeY]at he;obtain⟨rs,nC,rfl⟩:=he;have:=vF (look:=look) hf r rs nC;simp [List.mapM_cons,hf x v hx,this,SV.vals]
def I5(tmps:Array Value):ResultVar→Sem Value
 | .tmp t=>pure (tmps.getD t undef)
 | .cell c t=>do loadVar t (←asAddr (tmps.getD c undef))
theorem yO(fn:Func)(tmps:Array Value):results fn tmps=(do let vs←fn.results.mapM (I5 tmps);pure (if h:vs.size=1 then vs[0]else .tuple vs)):=by
 unfold results;congr 2
theorem n_{T:List TI}(hT:bG P T=true){st:St}(hw:HW Fs w0 st ρ w)(ha:HA st.fr nt ρ a){fn:Func}{v:SV}(hv:yE T st fn=some v):
  (results fn a.tmps).run P w= .ok (v.val ρ) w:=by
 obtain⟨S,hS⟩:=hw.own;have one: ∀(x:ResultVar) (u:SV),Cy T st x=some u→
   (I5 a.tmps x).run P w= .ok (u.val ρ) w:=by
  intro x u hx;unfold I5;cases x with
  | tmp t=>
   have:=ha.aT t u hx;simp only [this,afs]
  | cell c t=>
   simp only [Cy]at hx;split at hx
   ·rename_i ti y cQ hy;split at hx
    ·rename_i r hr;split at hx
     ·rename_i he;cases hx;obtain⟨rfl,hi⟩:=aH hT cQ;have cV:Reads st.hp ρ w S r.rd:=by
       intro j _ ck hj;refine(hS.at_ j (ck.den ρ) ?_).1;rw [ae1 (by simpa using (aeV.1 hj).1),List.getElem?_map,hj];rfl
      have h1:=(qG hi hr cV (by rw [List.isEmpty_iff.1 he];intro b hb;cases hb)).1;have h2:=ha.aT c y hy;simp only [h2];unfold Instr.loadAt at h1;cases kf:y.val ρ with
      | pointer p=>
       cases p with
       | some ad=>
        rw [kf]at h1;simpa [Instr.sureAddr,asAddr] using h1
       | none=>rw [kf]at h1;simp [Instr.sureAddr]at h1
      | _=>rw [kf]at h1;simp [Instr.sureAddr]at h1
     ·cases hx
    ·cases hx
   ·cases hx
 unfold yE at hv;have key: ∀vs,jc (fn.results.toList.map (Cy T st))=some vs→
   (fn.results.mapM (I5 a.tmps)).run P w= .ok (SV.vals ρ vs).toArray w:=by
  intro vs Al;have:=vF (look:=fun _=>none) one _ vs Al;rw [Array.mapM_eq_mapM_toList];simp [this]
 split at hv
 ·rename_i u hu;cases hv;have:=key _ hu;rw [yO];simp only [afa];rw [this];simp [SV.vals]
 ·rename_i vs eZ Al;cases hv;have:=key _ Al;rw [yO];simp only [afa];rw [this];have hl:(SV.vals ρ vs).length≠1:=by
   intro h1;have: ∀l:List SV,(SV.vals ρ l).length=l.length:=by
    intro l;induction l with
    | nil=>rfl
    | cons x r ih=>simp [SV.vals,ih]
   rw [this]at h1;obtain⟨x,rfl⟩:=List.length_eq_one_iff.1 h1;exact eZ x rfl
  simp [hl,SV.val]
 ·cases hv
end
end Go.RX
