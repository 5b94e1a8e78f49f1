/- Executor. -/
import Derived.Test.YtllcdnkfbeokhaaGreatM14
open Array renaming getD_eq_getD_getElem? -> ayf
open Bool renaming and_eq_true -> ai
open Go.Sem renaming run_bind -> ax9, run_pure -> ayj
open List renaming all_eq_true -> axS, getElem?_append_left -> axX, getElem?_eq_some_iff -> axT, map_cons -> ayr, mem_filter -> ayi
open Nat renaming blt_eq -> ayb
open Option renaming getD_some -> ayG, map_eq_some_iff -> axV
namespace Go.RX
section
variable {P:Program} {ρ bG:Env} {a:Act} {w:World} {fr:List (Nat×SV)} {nt:NT}
theorem pr(d:Nat)(fr:List (Nat×SV))(s:Nat)(h:s≠d):look (fr.filter λx=> !(x.1==d)) s=look fr s:=by
 induction fr with
 | nil=>rfl
 | cons x r ih=>
  obtain⟨t,v⟩:=x;by_cases ht:t=d
  .subst ht;rw[List.filter_cons_of_neg (by simp),ih]
   conv=>rhs;unfold look
   rw[if_neg (by simp;exact Ne.symm h)]
  .rw [List.filter_cons_of_pos (by simpa using ht)];unfold look;rw[ih]
theorem HA.put(h:HA fr nt ρ a){d:Option Nat}{v:SV}{u:Value}(hd: ∀x,d=some x->x<nt.n)(hv:u=v.val ρ)(st:St)(YM:st.fr=fr):
  HA (st.put d v).fr nt ρ (a.put d u):=by
 subst YM;cases d with
 | none=>exact h
 | some d=>
  have cC:=hd d rfl;refine⟨h.defers,by simpa[Act.put] using h.size,λs x hs=>?_⟩;simp only[St.put]at hs;unfold look at hs;split at hs
  .rename_i P5;rw[beq_iff_eq]at P5;subst P5;cases hs;have:=h.size;rw[<-hv];simp only[Act.put];rw[ayf,Array.getElem?_setIfInBounds_self_of_lt (by omega)];rfl
  .rename_i P5;have fL:s≠d:=λe=>P5 (by simp[e])
   rw[pr d _ s fL]at hs;have:=h.aQ s x hs;rw[<-this];simp only[Act.put];rw[ayf,ayf,Array.getElem?_setIfInBounds_ne (Ne.symm fL)]
theorem ft(st:St)(d:Option Nat)(v:SV):(st.put d v).hp=st.hp/\(st.put d v).aY=st.aY/\(st.put d v).known=st.known/\(st.put d v).nt=st.nt/\(st.put d v).fn=st.fn:=by
 cases d<;>exact⟨rfl,rfl,rfl,rfl,rfl⟩
theorem adD{c:cI}{st:St}{d:Option Nat}{v:SV}(h:nF c st.fr=true)(hv:v.sc c=true):nF c (st.put d v).fr=true:=by
 cases d with
 | none=>exact h
 | some d=>
  simp only[St.put,nF,List.all_cons,ai];exact⟨hv,axS.2 λx hx=>axS.1 h x (ayi.1 hx).1⟩
variable {Fs:List HP} {w0:World}
theorem HW.put{st:St}(h:HW Fs w0 st ρ w){d:Option Nat}{v:SV}(hv:v.sc st.aY=true):HW Fs w0 (st.put d v) ρ w:=by
 obtain⟨e1,e2,e3,e4,_⟩:=ft st d v;refine⟨by rw[e2];exact h.lens,by rw[e2];exact adD h.m7 hv,by rw[e1,e2];exact h.iu,by rw[e2,e3];exact h.qF,by rw[e3];exact h.kn,by rw[e1];exact h.own,h.same,by rw[e2,e4];exact h.oq⟩
theorem wi{c:cI}(gp:iY c ρ bG){ds:List MK}(h:ds.all (MK.sc c)=true):marks ρ ds=marks bG ds:=by
 unfold marks;congr 1;rw[List.flatMap_def,List.flatMap_def];congr 1;refine List.map_congr_left λd hd=>?_
 have:=axS.1 h d hd;cases d<;>simp only[MK.sc,ayb]at this<;>simp only[MK.blocks,gp.b _ this]
theorem HA.more(h:HA fr nt ρ a){c:cI}(kS:nF c fr=true)(O4:nt.ds.all (MK.sc c)=true)(gp:iY c ρ bG):HA fr nt bG a:=
 ⟨h.defers.trans (wi gp O4),h.size,λs v hs=>by rw[h.aQ s v hs];exact(SV.xN gp (EE kS hs)).1⟩
theorem HA.eval(h:HA fr nt ρ a):vJ ρ (look fr) a.eval:=
 ⟨λs v hs=>h.aQ s v hs,λ_=>rfl,λ_=>rfl⟩
theorem SV.Yx{c:BE}(hc:c.den ρ=true)(v:SV):(v.K6 c).val ρ=v.val ρ:=by
 unfold SV.K6;split
 .rename_i c' v;split
  .rename_i he;subst he;rw[SV.val,if_pos hc]
  .split
   .split
    .rename_i he;subst he;simp only[SV.val,BE.den,hc,Bool.true_and]
    .rfl
   .rfl
 .split
  .rename_i b hb;subst hb;simp only[SV.val,hc,BE.den]
  .rfl
 .rfl
theorem SV.UW{c:BE}(hc:c.den ρ=false)(v:SV):(v.tP c).val ρ=v.val ρ:=by
 unfold SV.tP;split
 .rename_i c' v;split
  .rename_i he;subst he;simp[SV.val,hc]
  .split
   .split
    .rename_i he;subst he;simp[SV.val,BE.den,hc]
    .rfl
   .rfl
 .split
  .rename_i b hb;subst hb;simp only[SV.val,hc,BE.den]
  .rfl
 .rfl
theorem SV.Yy{c:BE}{n:cI}{v:SV}(h:v.sc n=true):(v.tP c).sc n=true:=by
 unfold SV.tP;split
 .rename_i c' v;split
  .rfl
  .split
   .split
    .rfl
    .exact h
   .exact h
 .split
  .rfl
  .exact h
 .exact h
theorem SV.adE{c:BE}{n:cI}{v:SV}(h:v.sc n=true):(v.K6 c).sc n=true:=by
 unfold SV.K6;split
 .rename_i c' v;simp only[SV.sc,ai]at h;split
  .exact h.2
  .split
   .split
    .have h1:=h.1;simp only[BE.sc,ai]at h1;simp only[SV.sc,ai];exact⟨h1.2,h.2⟩
    .simp only[SV.sc,ai];exact h
   .simp only[SV.sc,ai];exact h
 .split
  .rfl
  .exact h
 .exact h
theorem I0{f:SV->SV}{fr:List (Nat×SV)}{s:Nat}{v:SV}(h:look (fr.map λx=>(x.1,f x.2)) s=some v): ∃u,look fr s=some u/\v=f u:=by
 induction fr with
 | nil=>cases h
 | cons x r ih=>
  obtain⟨t,u⟩:=x;have h':(if t==s then some (f u)else look (r.map λx=>(x.1,f x.2)) s)=some v:=h;show∃u',(if t==s then some u else look r s)=some u'/\v=f u';split at h'
  .rename_i ht;cases h';exact⟨u,by rw[if_pos ht],rfl⟩
  .rename_i ht;obtain⟨u',h1,h2⟩:=ih h';exact⟨u',by rw[if_neg ht];exact h1,h2⟩
theorem HA.K6{st:St}(h:HA st.fr nt ρ a){c:BE}(hc:c.den ρ=true):HA (st.K6 c).fr nt ρ a:=
 ⟨h.defers,h.size,λs v hs=>by
  obtain⟨u,h1,rfl⟩:=I0 (f:=SV.K6 c) hs;rw[SV.Yx hc];exact h.aQ s u h1⟩
theorem HA.tP{st:St}(h:HA st.fr nt ρ a){c:BE}(hc:c.den ρ=false):HA (st.tP c).fr nt ρ a:=
 ⟨h.defers,h.size,λs v hs=>by
  obtain⟨u,h1,rfl⟩:=I0 (f:=SV.tP c) hs;rw[SV.UW hc];exact h.aQ s u h1⟩
theorem HA.PL(h:HA fr nt ρ a){c:BE}(hc:c.den ρ=true):vJ ρ (under c (look fr)) a.eval:=by
 refine⟨λs v hs=>?_,λ_=>rfl,λ_=>rfl⟩;unfold under at hs;split at hs
 .rename_i c' v' hl;have:=h.aQ s _ hl;split at hs
  .rename_i he;subst he;cases hs;show a.tmps.getD s undef=_;rw[this,SV.val,if_pos hc]
  .split at hs
   .rename_i x y _;split at hs
    .rename_i he;subst he;cases hs;show a.tmps.getD s undef=_;rw[this];simp only[SV.val,BE.den,hc,Bool.true_and]
    .cases hs;exact this
   .cases hs;exact this
 .exact h.aQ s v hs
theorem mo{b:BE}(h:b.sc {}=true)(ρ:Env):b.den ρ=b.den Bq:=by
 have e:iY {} ρ {ρ with iv:=[],av:=[],bo:=[],bv:=[],vv:=[],pv:=[],lr:=[]}:=by
  constructor<;>first | rfl | (intro i hi;simp at hi)
 rw[BE.bZ e h];clear h e;have key: ∀(x:E) (j:Nat),x.den {ρ with iv:=[],av:=[],bo:=[],bv:=[],vv:=[],pv:=[],lr:=[]} j=x.den Bq j:=by
  intro x
  induction x with
  | lit n=>intro j;rfl
  | var i=>intro j;rfl
  | cM i=>intro j;rfl
  | Vh a i ha hi=>intro j;simp only[E.den,ha,hi]
  | bin o k a b ha hb=>intro j;simp only[E.den,ha,hb]
  | wrap k a ha=>intro j;simp only[E.den,ha]
  | oL a i v ha hi hv=>intro j;simp only[E.den,ha,hi,hv]
  | shift a o ha ho=>intro j;simp only[E.den,ha,ho]
  | jA a o n b ha ho hn hb=>intro j;simp only[E.den,ha,ho,hn,hb]
  | uv b=>intro j;rfl
  | kc n a ha=>intro j;simp only[E.den];rw[List.map_congr_left λi _=>ha i]
  | tH l=>intro j;rfl
  | VI a i ha hi=>intro j;simp only[E.den,rK,ha,hi]
  | rQ a i s ha hi hs=>intro j;simp only[E.den,Ga,ha,hi,hs]
  | YC s hs=>intro j;simp only[E.den,Nj,hs]
 have aoT: ∀x:E,x.den {ρ with iv:=[],av:=[],bo:=[],bv:=[],vv:=[],pv:=[],lr:=[]}=x.den Bq:=λx=>funext (key x)
 induction b with
 | lit b=>rfl
 | var i=>rfl
 | eq a b=>simp only[BE.den,key]
 | lt a b=>simp only[BE.den,key]
 | le a b=>simp only[BE.den,key]
 | nz a=>simp only[BE.den,key]
 | YD n a b=>simp only[BE.den,key]
 | not a ih=>simp only[BE.den,ih]
 | and a b mU rR=>simp only[BE.den,mU,rR]
 | or a b mU rR=>simp only[BE.den,mU,rR]
 | ite c t e ihc I6 I7=>simp only[BE.den,ihc,I6,I7]
 | seq a b=>simp only[BE.den,aoT]
 | Eg i=>rfl
theorem pw{known:List BE}(hk: ∀b∈known,b.prop ρ)(b:BE):(tE known b).den ρ=b.den ρ:=by
 unfold tE;split
 .rfl
 .split
  .rename_i hc;exact(mo hc ρ).symm
  split
  .rename_i hc;have:=hk b (by simpa using hc);rw[<-BE.bY]at this;rw[this];rfl
  .split
   .rename_i hc;have:=hk (kp b) (by simpa using hc);rw[<-BE.bY,dY]at this;simp only[BE.den];cases hb:b.den ρ
    .rfl
    .rw [hb]at this;cases this
   .rfl
theorem SV.Nb{known:List BE}(hk: ∀b∈known,b.prop ρ)(v:SV):(v.fix known).val ρ=v.val ρ:=by
 unfold SV.fix;split
 .rename_i c v;have hd:=pw hk c;split
  .rename_i e;rw[e]at hd;simp[SV.val,<-hd,BE.den]
  .rename_i e;rw[e]at hd;simp[SV.val,<-hd,BE.den]
  .rfl
 .rename_i b;simp only[SV.val,pw hk b]
 .rfl
theorem SV.UX{known:List BE}(hk: ∀b∈known,b.prop ρ){c:BE}(hc:c.den ρ=true)(v:SV):(v.adv c known).val ρ=v.val ρ:=by
 have key: ∀b:BE,known.contains (kp (CR c b))=true->b.den ρ=false:=by
  intro b hb;have:=hk _ (by simpa using hb);rw[<-BE.bY,dY,pY,hc]at this;simpa using this
 unfold SV.adv;split
 .split
  .rename_i b hb;simp only[SV.val,key b hb,BE.den]
  .rfl
 .split
  .rename_i b v hb;simp[SV.val,key b hb]
  .rfl
 .rfl
theorem HA.xT(h:HA fr nt ρ a){known:List BE}(hk: ∀b∈known,b.prop ρ){g:Option BE}(hg:pH ρ g=true):vJ ρ (DH g known fr) a.eval:=by
 refine⟨λs v hs=>?_,λ_=>rfl,λ_=>rfl⟩;cases g with
 | none=>
  simp only[DH,axV]at hs;obtain⟨u,hu,rfl⟩:=hs;rw[SV.Nb hk];exact h.aQ s u hu
 | some c=>
  simp only[DH,axV]at hs;obtain⟨u,hu,rfl⟩:=hs;rw[SV.UX hk hg,SV.Nb hk];exact(HA.PL h hg).1 s u hu
theorem rB(h:HA fr nt ρ a){known:List BE}(hk: ∀b∈known,b.prop ρ){x:Operand}{b:BE}(hc:K7 fr known x=some b):a.eval x= .bool (b.den ρ):=by
 unfold K7 at hc;split at hc
 .rename_i b' he;cases hc;rw[eW h.eval he,pw hk];rfl
 .cases hc
theorem xf{all:Array Oper}{tmps:Array Value}{j d:Nat}{oj:Oper}(hj:all[j]? =some oj)(hd:oj.dst=some d){b:Bool}(hv:tmps.getD d undef= .bool b):
  yielded all tmps j=some b:=by
 unfold yielded;simp only[hj,Option.bind_some,hd];rw[ayf]at hv;cases ht:tmps[d]? with
 | none=>rw[ht]at hv;cases hv
 | some v=>
  rw[ht]at hv;simp only[ayG]at hv;subst hv;rfl
theorem pP{all:Array Oper}{tmps:Array Value}{j d:Nat}{oj:Oper}(hj:all[j]? =some oj)(hd:oj.dst=some d)(hv:tmps.getD d undef=undef):
  yielded all tmps j=none:=by
 unfold yielded;simp only[hj,Option.bind_some,hd];rw[ayf]at hv;cases ht:tmps[d]? with
 | none=>rfl
 | some v=>
  rw[ht]at hv;simp only[ayG]at hv;subst hv;rfl
theorem uq(h:HA fr nt ρ a){all:Array Oper}{o:Oper}{g:Option BE}(hg:guardOf all fr o=some g):
  Region.wanted o (yielded all a.tmps)=pH ρ g:=by
 unfold guardOf at hg;split at hg
 .rename_i hn;cases hg;simp[Region.wanted,hn,pH]
 .rename_i j want hn;split at hg
  .rename_i oj hj;split at hg
   .rename_i d hd;split at hg
    .rename_i b hl;cases hg;have:=xf hj hd (h.aQ d _ hl);simp only[Region.wanted,hn,this,pH];cases want
     .simp only[Bool.false_eq_true,if_false,dY];cases b.den ρ<;>rfl
     .simp only[if_true];cases b.den ρ<;>rfl
    .rename_i c b hl;cases hg;have h1:=h.aQ d _ hl;simp only[SV.val]at h1;simp only[Region.wanted,hn,pH,pY];cases hc:c.den ρ with
     | true=>
      rw[hc,if_pos rfl]at h1;rw[xf hj hd h1];cases want
      .simp only[Bool.false_eq_true,if_false,dY,Bool.true_and];cases b.den ρ<;>rfl
      .simp only[if_true,Bool.true_and];cases b.den ρ<;>rfl
     | false=>
      rw[hc,if_neg (by simp)]at h1;rw[pP hj hd h1];rfl
    .rename_i hl;cases hg;rw[Region.wanted,hn];simp only[pP hj hd (h.aQ d _ hl),pH,BE.den];rfl
    .rename_i c hl;cases hg;have h1:=h.aQ d _ hl;simp only[SV.val,ite_self]at h1;rw[Region.wanted,hn];simp only[pP hj hd h1,pH,BE.den];rfl
    .cases hg
   .cases hg
  .cases hg
theorem mB(h:HA fr nt ρ a){all:Array Oper}{known:List BE}(hk: ∀b∈known,b.prop ρ){o:Oper}{g:Option BE}(hg:tl all fr known o=some g):
  Region.wanted o (yielded all a.tmps)=pH ρ g:=by
 unfold tl at hg;split at hg
 .rename_i b hb;rw[uq h hb];have hd:=pw hk b;split at hg
  .rename_i he;cases hg;rw[he]at hd;exact hd.symm
  .cases hg;exact hd.symm
 .rw [uq h hg]
theorem Au{g:Option BE}{b:BE}(h:(gvc g b).prop ρ)(hg:pH ρ g=true):b.prop ρ:=by
 cases g with
 | none=>exact h
 | some c=>
  simp only[gvc,pH]at h hg;rw[<-BE.bY,Lo,dY,hg]at h;rw[<-BE.bY];simpa using h
theorem xX{b:BE}(h:b.sure=true)(ρ:Env):b.den ρ=true:=by
 simp only[BE.sure,ai]at h;rw[mo h.1];exact h.2
theorem jW{al:Value->List HP->Prop}{g:Option BE}{known:List BE}{r:F}{L:Nat->LC}(hk: ∀b∈known,b.prop ρ): ∀{vcs:List BE},VC P al (sY g vcs known r) ρ L->
  (pH ρ g=true->∀b∈vcs,b.prop ρ)/\VC P al r ρ L
 | [],h=>⟨λ_ b hb=>(by cases hb),h⟩
 | b::bs,h=>by
  unfold sY at h;split at h
  .rename_i hc;obtain⟨h1,h2⟩:=jW hk h;refine⟨λhg x hx=>?_,h2⟩;rcases List.mem_cons.1 hx with rfl | hx
   .rw [Bool.or_eq_true,Bool.or_eq_true]at hc;rcases hc with(hc | hc) | hc
    .rw [beq_iff_eq]at hc;exact Au (by rw[hc];rfl) hg
    .exact Au (hk _ (by simpa using hc)) hg
    .exact Au ((BE.bY _ _).1 (xX hc _)) hg
   .exact h1 hg x hx
  .simp only[VC,ay]at h;obtain⟨h1,h2⟩:=jW hk (h.2 h.1);refine⟨λhg x hx=>?_,h2⟩;rcases List.mem_cons.1 hx with rfl | hx
   .exact Au h.1 hg
   .exact h1 hg x hx
theorem zt{look:Nat->Option SV}{α:Type}{f:α->Option SV}{g:α->Sem Value}(hf: ∀x v,f x=some v->(g x).run P w= .ok (v.val ρ) w): ∀(xs:List α) (vs:List SV),kP (xs.map f)=some vs->
  (xs.mapM g).run P w= .ok (SV.bF ρ vs) w
 | [],vs,he=>by simp[kP]at he;subst he;simp[SV.bF]
 | x::r,vs,he=>by
  simp only[ayr]at he;cases hx:f x with
  | none=>rw[hx]at he;simp[kP]at he
  | some v=>
   rw[hx]at he;simp only[kP,axV]at he;obtain⟨rs,hrs,rfl⟩:=he;have:=zt (look:=look) hf r rs hrs;simp[List.mapM_cons,hf x v hx,this,SV.bF]
def Nc(tmps:Array Value):ResultVar->Sem Value
 | .tmp t=>pure (tmps.getD t undef)
 | .cell c t=>do loadVar t (<-asAddr (tmps.getD c undef))
theorem Cz(fn:Func)(tmps:Array Value):results fn tmps=(do let vs<-fn.results.mapM (Nc tmps);pure (if h:vs.size=1 then vs[0]else .tuple vs)):=by
 unfold results;congr 2
theorem ra{T:List TI}(hT:bD P T=true){st:St}(hw:HW Fs w0 st ρ w)(ha:HA st.fr nt ρ a){fn:Func}{v:SV}(hv:Cn T st fn=some v):
  (results fn a.tmps).run P w= .ok (v.val ρ) w:=by
 obtain⟨S,hS⟩:=hw.own;have one: ∀(x:ResultVar) (u:SV),FJ T st x=some u->
   (Nc a.tmps x).run P w= .ok (u.val ρ) w:=by
  intro x u hx;unfold Nc;cases x with
  | tmp t=>
   have:=ha.aQ t u hx;simp only[this,ayj]
  | cell c t=>
   simp only[FJ]at hx;split at hx
   .rename_i ti y dZ hy;split at hx
    .rename_i r hr;split at hx
     .rename_i he;cases hx;obtain⟨rfl,hi⟩:=aE hT dZ;have dF:Reads st.hp ρ w S r.rd:=by
       intro j _ ck hj;refine(hS.at_ j (ck.den ρ) ?_).1;rw[axX (by simpa using (axT.1 hj).1),List.getElem?_map,hj];rfl
      have h1:=(tU hi hr dF (by rw[List.isEmpty_iff.1 he];intro b hb;cases hb)).1;have h2:=ha.aQ c y hy;simp only[h2];unfold Instr.loadAt at h1;cases qo:y.val ρ with
      | pointer p=>
       cases p with
       | some ad=>
        rw[qo]at h1;simpa[Instr.sureAddr,asAddr] using h1
       | none=>rw[qo]at h1;simp[Instr.sureAddr]at h1
      | _=>rw[qo]at h1;simp[Instr.sureAddr]at h1
     .cases hx
    .cases hx
   .cases hx
 unfold Cn at hv;have key: ∀vs,kP (fn.results.toList.map (FJ T st))=some vs->
   (fn.results.mapM (Nc a.tmps)).run P w= .ok (SV.bF ρ vs).toArray w:=by
  intro vs I_;have:=zt (look:=λ_=>none) one _ vs I_;rw[Array.mapM_eq_mapM_toList];simp[this]
 split at hv
 .rename_i u hu;cases hv;have:=key _ hu;rw[Cz];simp only[ax9];rw[this];simp[SV.bF]
 .rename_i vs fL I_;cases hv;have:=key _ I_;rw[Cz];simp only[ax9];rw[this];have hl:(SV.bF ρ vs).length≠1:=by
   intro h1;have: ∀l:List SV,(SV.bF ρ l).length=l.length:=by
    intro l;induction l with
    | nil=>rfl
    | cons x r ih=>simp[SV.bF,ih]
   rw[this]at h1;obtain⟨x,rfl⟩:=List.length_eq_one_iff.1 h1;exact fL x rfl
  simp[hl,SV.val]
 .cases hv
end
end Go.RX
