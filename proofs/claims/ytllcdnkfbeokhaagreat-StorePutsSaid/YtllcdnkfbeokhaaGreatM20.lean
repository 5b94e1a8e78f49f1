/- Executor. -/
import Derived.Test.YtllcdnkfbeokhaaGreatRxY
open Array renaming getD_eq_getD_getElem? -> ayf, getElem?_eq_some_iff -> ax1
open Bool renaming and_eq_true -> ai
open Go.Region renaming binds -> ayu
open List renaming all_eq_true -> axS, filter_append -> ayH, map_cons -> ayr, mem_append -> ax_, mem_cons_of_mem -> axZ, mem_cons_self -> axW, mem_filter -> ayi, mem_map -> ayg, mem_range -> ayc, mem_singleton -> ax2
open Nat renaming blt_eq -> ayb, lt_of_lt_of_le -> ax7
open Option.some renaming injEq -> axU
namespace Go.RX
abbrev Wr:=Nat×Option Nat×Value
def oQ(a:Act)(W:List Wr):Act:=W.foldl (λa x=>a.put x.2.1 x.2.2) a
theorem lu(a:Act)(x y:List Wr):oQ a (x++y)=oQ (oQ a x) y:=List.foldl_append ..
theorem vY(a:Act)(i:Nat)(d:Option Nat)(v:Value):oQ a [(i,d,v)]=a.put d v:=rfl
theorem vZ(a:Act)(d:Option Nat)(v:Value):(a.put d v).tmps.size=a.tmps.size:=by cases d<;>simp[Act.put]
theorem put_defers(a:Act)(d:Option Nat)(v:Value):(a.put d v).defers=a.defers:=by cases d<;>rfl
theorem qt: ∀(W:List Wr) (a:Act),(oQ a W).tmps.size=a.tmps.size
 | [],_=>rfl
 | x::r,a=>by
  show(oQ (a.put x.2.1 x.2.2) r).tmps.size=_;rw[qt r,vZ]
theorem mL: ∀(W:List Wr) (a:Act),(oQ a W).defers=a.defers
 | [],_=>rfl
 | x::r,a=>by
  show(oQ (a.put x.2.1 x.2.2) r).defers=_;rw[mL r,put_defers]
theorem xO(a:Act)(d:Option Nat)(v:Value)(s:Nat)(h:d≠some s):(a.put d v).tmps.getD s undef=a.tmps.getD s undef:=by
 cases d with
 | none=>rfl
 | some d=>
  have:d≠s:=λe=>h (by rw[e])
  simp only[Act.put];rw[ayf,ayf,Array.getElem?_setIfInBounds_ne this]
theorem Bi(a:Act)(d:Nat)(v:Value)(h:d<a.tmps.size):(a.put (some d) v).tmps.getD d undef=v:=by
 simp only[Act.put];rw[ayf,Array.getElem?_setIfInBounds_self_of_lt h];rfl
theorem QV(a b:Act)(d:Option Nat)(v:Value)(s:Nat)(hs:a.tmps.size=b.tmps.size)(h:a.tmps.getD s undef=b.tmps.getD s undef):
  (a.put d v).tmps.getD s undef=(b.put d v).tmps.getD s undef:=by
 by_cases hd:d=some s
 .subst hd;by_cases cC:s<a.tmps.size
  .rw [Bi a s v cC,Bi b s v (by omega)]
  .simp only[Act.put];rw[ayf,ayf,Array.getElem?_eq_none (by simpa using cC),Array.getElem?_eq_none (by simp;omega)]
 .rw [xO a d v s hd,xO b d v s hd,h]
theorem tj(s:Nat): ∀(W:List Wr) (a b:Act),a.tmps.size=b.tmps.size->a.tmps.getD s undef=b.tmps.getD s undef->
  (oQ a W).tmps.getD s undef=(oQ b (W.filter λx=>x.2.1==some s)).tmps.getD s undef
 | [],a,b,_,h=>h
 | x::r,a,b,hs,h=>by
  show(oQ (a.put x.2.1 x.2.2) r).tmps.getD s undef=_;by_cases hx:x.2.1=some s
  .rw [List.filter_cons_of_pos (by simpa using hx)];show _=(oQ (b.put x.2.1 x.2.2) _).tmps.getD s undef;exact tj s r _ _ (by rw[vZ,vZ,hs]) (QV a b _ _ s hs h)
  .rw [List.filter_cons_of_neg (by simpa using hx)];exact tj s r _ _ (by rw[vZ,hs]) (by rw[xO a _ _ s hx,h])
theorem put_comm(a:Act){d d':Option Nat}(v v':Value)(h: ∀s,d=some s->d'≠some s):(a.put d v).put d' v'=(a.put d' v').put d v:=by
 cases d with
 | none=>rfl
 | some d=>
  cases d' with
  | none=>rfl
  | some d'=>
   have:d≠d':=λe=>h d rfl (by rw[e])
   simp only[Act.put];rw[Array.setIfInBounds_comm _ _ this]
theorem DF(d:Option Nat)(v:Value): ∀(W:List Wr) (a:Act),(∀x∈W,∀s,d=some s->x.2.1≠some s)->oQ (a.put d v) W=(oQ a W).put d v
 | [],_,_=>rfl
 | x::r,a,h=>by
  show oQ ((a.put d v).put x.2.1 x.2.2) r=(oQ (a.put x.2.1 x.2.2) r).put d v;rw[put_comm a v x.2.2 (h x axW)];exact DF d v r _ λy hy=>h y (axZ _ hy)
section order
variable {all:Array Oper} {pm:List Nat}
theorem xP(h:Bj all pm=true){p:Nat}{o:Oper}(ho:all[p]? =some o):
  (∀e∈o.after,ayu .any e=true->e.on<p)/\
  ∀q,q<all.size->(pm.getD p 0).testBit q=true->∃e∈o.after,ayu .any e=true/\(q=e.on\/(pm.getD e.on 0).testBit q=true):=by
 have hp:p<all.size:=(ax1.1 ho).1;have:=axS.1 h p (ayc.2 hp);simp only[ho,ai]at this;refine⟨λe he hb=>?_,λq hq QW=>?_⟩
 .have h1:=axS.1 this.1 e (by simpa using he);simpa[hb,ayb] using h1
 .have h1:=axS.1 this.2 q (ayc.2 hq);rw[QW]at h1;simp only[Bool.not_true,Bool.false_or]at h1;obtain⟨e,he,h2⟩:=List.any_eq_true.1 h1;simp only[ai,Bool.or_eq_true,beq_iff_eq]at h2;exact⟨e,by simpa using he,h2.1,h2.2⟩
theorem DG(h:Bj all pm=true)(X:Nat->Prop)(hX: ∀p o,all[p]? =some o->X p->∀e∈o.after,ayu .any e=true->X e.on):
  ∀(p:Nat) (o:Oper),all[p]? =some o->X p->∀q,q<all.size->(pm.getD p 0).testBit q=true->X q:=by
 intro p
 induction p using Nat.strongRecOn with
 | _ p ih=>
  intro o ho hXp q hq QW;obtain⟨h1,h2⟩:=xP h ho;obtain⟨e,he,hb,zH⟩:=h2 q hq QW;have hXe:=hX p o ho hXp e he hb;rcases zH with rfl | QX
  .exact hXe
  .have cC:=h1 e he hb;have hp:p<all.size:=(ax1.1 ho).1;have V6:all[e.on]? =some all[e.on]:=Array.getElem?_eq_getElem (by omega);exact ih e.on cC _ V6 hXe q hq QX
theorem v_(h:Bj all pm=true)(X:Nat->Prop)(hX: ∀p o,all[p]? =some o->X p->∀e∈o.after,ayu .any e=true->X e.on)
  {p:Nat} {o:Oper} (ho:all[p]? =some o) (hr: ∀e∈o.after,ayu .any e=true->X e.on) {q:Nat} (hq:q<all.size) (QW:(pm.getD p 0).testBit q=true):X q:=by
 obtain⟨h1,h2⟩:=xP h ho;obtain⟨e,he,hb,zH⟩:=h2 q hq QW;have hXe:=hr e he hb;rcases zH with rfl | QX
 .exact hXe
 .have cC:=h1 e he hb;have hp:p<all.size:=(ax1.1 ho).1;have V6:all[e.on]? =some all[e.on]:=Array.getElem?_eq_getElem (by omega);exact DG h X hX e.on _ V6 hXe q hq QX
theorem t_(h:mM all pm=true){i j d:Nat}{oi oj:Oper}(hi:all[i]? =some oi)(hj:all[j]? =some oj)(hd:oi.dst=some d)
  (hs:d∈slotsOf all oj\/oj.dst=some d) (fL:i≠j):(pm.getD j 0).testBit i=true\/(pm.getD i 0).testBit j=true:=by
 have xQ:i<all.size:=(ax1.1 hi).1;have hjl:j<all.size:=(ax1.1 hj).1;have h1:=axS.1 h i (ayc.2 xQ);simp only[hi,hd]at h1;have h2:=axS.1 h1 j (ayc.2 hjl);simp only[hj,Bool.or_eq_true,beq_iff_eq,Bool.not_eq_true',Bool.or_eq_false_iff,beq_eq_false_iff_ne]at h2;rcases h2 with((h2 | h2) | h2) | h2
 .exact absurd h2 fL
 .rcases hs with hs | hs
  .have:(slotsOf all oj).contains d=true:=by simpa using hs
   rw[this]at h2;cases h2.1
  .exact absurd hs h2.2
 .exact .inl h2
 .exact .inr h2
end order
theorem xR{x:List (Nat×SV)}{f:Nat->Bool}{s:Nat}{v:SV}(h:look (x.filter λy=>f y.1) s=some v):f s=true:=by
 induction x with
 | nil=>cases h
 | cons t r ih=>
  obtain⟨q,u⟩:=t;by_cases hf:f q=true
  .rw [List.filter_cons_of_pos (by exact hf)]at h;unfold look at h;split at h
   .rename_i hq;rw[beq_iff_eq]at hq;subst hq;exact hf
   .exact ih h
  .rw [List.filter_cons_of_neg (by exact hf)]at h;exact ih h
section
variable {P:Program} {C:Ctx} {al:Value->List HP->Prop} {Fs:List HP} {w0:World} {all:Array Oper} {pm:List Nat}
def ae2(P:Program)(all:Array Oper)(ro:Option Nat)(nt:NT)(i:Nat)(o:Oper)(v:Value)(base:Act)(hp:List Ck)(ρ:Env)(rd:List Nat):Prop:=
 ∀(a':Act) (w':World) (S:Nat->Nat->Prop) (K:Act->World->Prop) (Q:Exit->Act->World->Prop),(∀s∈slotsOf all o,a'.tmps.getD s undef=base.tmps.getD s undef)->a'.defers=base.defers->nt.n<=a'.tmps.size->
  Reads hp ρ w' S rd->K (a'.put o.dst v) w'->wpOpIn (FW ro) 0 P all Q i K a' w'
theorem yQ{fr:List (Nat×SV)}{nt:NT}{ρ:Env}{base a':Act}{aQ:List Nat}(h:HA fr nt ρ base)(hs: ∀s∈aQ,a'.tmps.getD s undef=base.tmps.getD s undef)(hd:a'.defers=base.defers)(hn:nt.n<=a'.tmps.size):
  HA (restrict fr aQ) nt ρ a':=by
 refine⟨hd.trans h.defers,hn,λs v hl=>?_⟩;have h1:=ou (f:=λq=>aQ.contains q) hl;have h2:=xR (f:=λq=>aQ.contains q) hl;rw[hs s (by simpa using h2),h.aQ s v h1]
theorem JK(hT:bD P C.T=true){ro:Option Nat}{nt:NT}{i:Nat}{o:Oper}(hi:all[i]? =some o){st:St}{ρ:Env}{base:Act}{g:Option BE}{res:jf}
  (hg:tl all (restrict st.fr (slotsOf all o)) st.known o=some g) (hr:GJ C g {st with fr:=restrict st.fr (slotsOf all o)} o=some res) (he:res.jE= .none)
  (hk: ∀b∈st.known,b.prop ρ) (hl:iZ ρ st.aY) (cA:pH ρ g=true->∀b∈res.vcs,b.prop ρ) (ha:HA st.fr nt ρ base):
  ae2 P all ro nt i o (if pH ρ g then res.val.val ρ else undef) base st.hp ρ res.rd:=by
 intro a' w' S K Q hs hd hn dF hK;have xS:=yQ ha hs hd hn;have ov:=mB xS hk hg;unfold wpOpIn;simp only[hi];rw[ov];cases NS:pH ρ g with
 | false=>
  rw[if_neg (by simp)];rw[NS,if_neg (by simp)]at hK;exact⟨λ_ _=>trivial,hK⟩
 | true=>
  rw[if_pos rfl];rw[NS,if_pos rfl]at hK;have hr:qY C g {st with fr:=restrict st.fr (slotsOf all o)} o=some res:=by
   rcases Bk hr with⟨rfl,_⟩ | hr
   .cases NS
   .exact hr
  obtain⟨GK,NU⟩:=nG hr;have uG:vJ ρ (DH g st.known (restrict st.fr (slotsOf all o))) a'.eval:=xS.xT hk NS;have hD:=sB (P:=P) hT (Env.ok ρ) uG GK dF (cA NS) hl.b;unfold Did at hD;rw[he]at hD;exact o7 (xU GK) (.inl hD) hK
abbrev l_(aP:Array Bool)(i:Nat):Bool:=aP.getD i false
structure DI (P:Program) (Fs:List HP) (w0:World) (all:Array Oper) (ro:Option Nat) (nt:NT) (a0:Act) (aP:Array Bool) (a:Act) (w:World)
  (rest:List Nat) (done:Nat) (log:List (Nat×List Nat)) (st:St) (ρ:Env) (W:List Wr):Prop where
 hw:HW Fs w0 st ρ w
 P3:st.nt=nt
 act:a=oQ a0 (W.filter λx=>l_ aP x.1)
 ha:HA st.fr nt ρ (oQ a0 W)
 nd:(W.map (·.1)).Nodup
 done: ∀i,done.testBit i=true↔i∈W.map (·.1)
 rest: ∀i,i∈rest↔i<all.size/\i ∉ W.map (·.1)
 sub: ∀i,l_ aP i=true->i∈W.map (·.1)
 V7:aP.size=all.size
 clL: ∀p o,all[p]? =some o->l_ aP p=true->∀e∈o.after,ayu .any e=true->l_ aP e.on=true
 V8: ∀W1 x W2,W=W1++x::W2->∃o,all[x.1]? =some o/\x.2.1=o.dst/\∀e∈o.after,ayu .any e=true->e.on∈W1.map (·.1)
 V9: ∀W1 x W2,W=W1++x::W2->l_ aP x.1=false->∃o rd hp bG,all[x.1]? =some o/\(x.1,rd)∈log/\ae2 P all ro nt x.1 o x.2.2 (oQ a0 W1) hp bG rd/\
  ∀j∈rd,∀ck,hp[j]? =some ck->∃Vl,st.hp[j]? =some Vl/\Vl.den ρ=ck.den bG
section fP
variable {ro:Option Nat} {nt:NT} {a0:Act} {aP:Array Bool} {a:Act} {w:World} {rest:List Nat} {done:Nat} {log:List (Nat×List Nat)} {st:St} {ρ:Env} {W:List Wr}
theorem DI.YV(h:DI P Fs w0 all ro nt a0 aP a w rest done log st ρ W){A B:List Wr}(hW:W=A++B):
  ∀p o,all[p]? =some o->p∈A.map (·.1)->∀e∈o.after,ayu .any e=true->e.on∈A.map (·.1):=by
 intro p o ho hp e he hb;obtain⟨y,hy,rfl⟩:=ayg.1 hp;obtain⟨A1,A2,rfl⟩:=List.append_of_mem hy;obtain⟨o',Jd,_,CZ⟩:=h.V8 A1 y (A2++B) (by rw[hW];simp);rw[ho]at Jd;cases Jd;have:=CZ e he hb;rw[List.map_append];exact List.mem_append_left _ this
theorem DI.before(h:DI P Fs w0 all ro nt a0 aP a w rest done log st ρ W)(wg:mM all pm=true)(DJ:Bj all pm=true){i:Nat}{o:Oper}(hi:all[i]? =some o)
  (qZ: ∀e∈o.after,ayu .any e=true->l_ aP e.on=true) {W1 tail:List Wr} (hW:W=W1++tail) (hni:i ∉ W1.map (·.1)) {s:Nat} (hs:s∈slotsOf all o\/o.dst=some s):
  ∀y∈W1,y.2.1=some s->l_ aP y.1=true:=by
 intro y hy LB;obtain⟨A,B,rfl⟩:=List.append_of_mem hy;obtain⟨oy,hoy,hdy,CZ⟩:=h.V8 A y (B++tail) (by rw[hW];simp);have fL:y.1≠i:=λe=>hni (by rw[<-e];simp)
 have hyl:y.1<all.size:=(ax1.1 hoy).1;have xQ:i<all.size:=(ax1.1 hi).1;rcases t_ wg hoy hi (hdy▸LB) hs fL with hb | hb
 .exact v_ DJ (λq=>l_ aP q=true) h.clL hi qZ hyl hb
 .have:=v_ DJ (λq=>q∈A.map (·.1)) (h.YV (A:=A) (B:=y::(B++tail)) (by rw[hW];simp)) hoy CZ xQ hb;exact absurd (by rw[List.map_append];exact List.mem_append_left _ this) hni
theorem DI.behind(h:DI P Fs w0 all ro nt a0 aP a w rest done log st ρ W)(wg:mM all pm=true)(DJ:Bj all pm=true){W1 W2:List Wr}{x:Wr}{o:Oper}(hi:all[x.1]? =some o)
  (yR:l_ aP x.1=false) (hW:W=W1++x::W2) {s:Nat} (hs:s∈slotsOf all o\/o.dst=some s):
  ∀y∈W2,y.2.1=some s->l_ aP y.1=false:=by
 intro y hy LB;obtain⟨A,B,rfl⟩:=List.append_of_mem hy;obtain⟨oy,hoy,hdy,CZ⟩:=h.V8 (W1++x::A) y B (by rw[hW];simp);obtain⟨ox,hox,_,ae5⟩:=h.V8 W1 x (A++y::B) hW;rw[hi]at hox;cases hox;have iT:=h.nd;rw[hW]at iT;simp only[List.map_append,ayr]at iT;rw[List.nodup_append]at iT;obtain⟨_,aaj,aak⟩:=iT;have hyl:y.1<all.size:=(ax1.1 hoy).1;have xQ:x.1<all.size:=(ax1.1 hi).1;have fL:y.1≠x.1:=λe=>by
  have:=(List.nodup_cons.1 aaj).1;exact this (by rw[<-e];simp)
 rcases t_ wg hoy hi (hdy▸LB) hs fL with hb | hb
 .have:=v_ DJ (λq=>q∈W1.map (·.1)) (h.YV (A:=W1) (B:=x::(A++y::B)) hW) hi ae5 hyl hb;exact absurd rfl (aak _ this _ (by simp))
 .cases hl:l_ aP y.1 with
  | false=>rfl
  | true=>
   have:=DG DJ (λq=>l_ aP q=true) h.clL y.1 oy hoy hl x.1 xQ hb;rw[yR]at this;cases this
theorem yS{W1 tail:List Wr}{s:Nat}(h1: ∀y∈W1,y.2.1=some s->l_ aP y.1=true)(h2: ∀y∈tail,y.2.1=some s->l_ aP y.1=false):
  (oQ a0 ((W1++tail).filter λx=>l_ aP x.1)).tmps.getD s undef=(oQ a0 W1).tmps.getD s undef:=by
 rw[tj s _ a0 a0 rfl rfl,tj s W1 a0 a0 rfl rfl];have e2:(tail.filter λx=>l_ aP x.1).filter (λx=>x.2.1==some s)=[]:=by
  rw[List.filter_filter,List.filter_eq_nil_iff];intro y hy hc;simp only[ai,beq_iff_eq]at hc;rw[h2 y hy hc.1]at hc;cases hc.2
 have e1:(W1.filter λx=>l_ aP x.1).filter (λx=>x.2.1==some s)=W1.filter (λx=>x.2.1==some s):=by
  rw[List.filter_filter];refine List.filter_congr λy hy=>?_
  by_cases LB:y.2.1=some s
  .rw [h1 y hy LB,Bool.and_true]
  .have:(y.2.1==some s)=false:=by simpa using LB
   rw[this,Bool.false_and]
 rw[ayH,ayH,e1,e2,List.append_nil]
end fP
end
theorem yT(done i j:Nat):(done|||(1 <<< i)).testBit j=(done.testBit j||decide (i=j)):=by
 rw[Nat.testBit_or,Nat.one_shiftLeft,Nat.testBit_two_pow]
theorem q_{α:Type}{W:List α}{x:α}{W1:List α}{y:α}{W2:List α}(h:W++[x]=W1++y::W2):(W2=[]/\y=x/\W1=W)\/∃NV,W2=NV++[x]/\W=W1++y::NV:=by
 rcases List.eq_nil_or_concat W2 with rfl | ⟨NV,z,rfl⟩
 .left;have:=List.append_inj' h rfl;exact⟨rfl,by simpa using this.2.symm,this.1.symm⟩
 .right;have h':W++[x]=(W1++y::NV)++[z]:=by rw[h];simp[List.concat_eq_append]
  have:=List.append_inj' h' rfl;have hz:x=z:=by simpa using this.2
  subst hz;exact⟨NV,by simp[List.concat_eq_append],this.1⟩
theorem GL{all:Array Oper}{done i:Nat}(h:ow all done i=true): ∃o,all[i]? =some o/\∀e∈o.after,ayu .any e=true->done.testBit e.on=true:=by
 unfold ow at h;split at h
 .rename_i o ho;refine⟨o,ho,λe he hb=>?_⟩;have:=axS.1 h e (by simpa using he);simpa[hb] using this
 .cases h
theorem NW{all:Array Oper}{done i:Nat}{o:Oper}(ho:all[i]? =some o)(h: ∀e∈o.after,ayu .any e=true->done.testBit e.on=true):ow all done i=true:=by
 unfold ow;simp only[ho];refine axS.2 λe he=>?_
 cases hb:ayu .any e with
 | false=>rfl
 | true=>rw[h e (by simpa using he) hb];rfl
section
variable {P:Program} {C:Ctx} {al:Value->List HP->Prop} {Fs:List HP} {w0:World} {all:Array Oper} {pm:List Nat}
variable {ro:Option Nat} {nt:NT} {a0:Act} {aP:Array Bool} {a:Act} {w:World} {rest:List Nat} {done:Nat} {log:List (Nat×List Nat)} {st:St} {ρ:Env} {W:List Wr}
theorem DI.quiet(hT:bD P C.T=true)(h:DI P Fs w0 all ro nt a0 aP a w rest done log st ρ W){i:Nat}{o:Oper}(hir:i∈rest)(dF:ow all done i=true)(hi:all[i]? =some o)(zN:sC st o.dst=true)
  {g:Option BE} {res:jf} (hg:tl all (restrict st.fr (slotsOf all o)) st.known o=some g) (hgs:gsc st.aY g=true)
  (hr:GJ C g {st with fr:=restrict st.fr (slotsOf all o)} o=some res) (he:res.jE= .none) (cA:pH ρ g=true->∀b∈res.vcs,b.prop ρ):
  DI P Fs w0 all ro nt a0 aP a w (rest.filter λj=>j != i) (done|||(1 <<< i)) ((i,res.rd)::log)
   (({st with known:=EF g res.vcs st.known}:St).put o.dst (NY g res.val)) ρ
   (W++[(i,o.dst,if pH ρ g then res.val.val ρ else undef)]):=by
 have NU:res.sc st.aY=true:=by
  rcases Bk hr with⟨_,rfl⟩ | hr
  .rfl
  .exact(nG hr).2
 have YW:=NU;simp only[jf.sc,ai,he,Bl.grow]at YW;obtain⟨⟨lZ,zO⟩,_⟩:=YW;have YX:i ∉ W.map (·.1):=((h.rest i).1 hir).2;have yR:l_ aP i=false:=by
  cases hl:l_ aP i with
  | false=>rfl
  | true=>exact absurd (h.sub i hl) YX
 have hv:(if pH ρ g=true then res.val.val ρ else undef)=(NY g res.val).val ρ:=by
  cases g with
  | none=>rfl
  | some c=>rfl
 have kS:(NY g res.val).sc st.aY=true:=by
  cases g with
  | none=>exact lZ
  | some c=>simp only[NY,SV.sc,ai];exact⟨hgs,lZ⟩
 have z5:HW Fs w0 ({st with known:=EF g res.vcs st.known}:St) ρ w:=by
  cases g with
  | some c=>exact h.hw
  | none=>
   refine⟨h.hw.lens,h.hw.m7,h.hw.iu,?_,λb hb=>?_,h.hw.own,h.hw.same,h.hw.oq⟩
   .show(more res.vcs st.known).all (BE.sc st.aY)=true;unfold more;rw[List.all_append,h.hw.qF,Bool.and_true];exact axS.2 λx hx=>axS.1 zO x (ayi.1 hx).1
   .exact(ax_.1 hb).elim (λhm=>cA rfl b (ayi.1 hm).1) (h.hw.kn b)
 have e:=ft ({st with known:=EF g res.vcs st.known}:St) o.dst (NY g res.val);refine⟨z5.put kS,by rw[e.2.2.2.1];exact h.P3,?_,?_,?_,?_,?_,?_,h.V7,h.clL,?_,?_⟩
 .rw [ayH,List.filter_cons_of_neg (by simp[yR]),List.filter_nil,List.append_nil];exact h.act
 .rw [lu,vY];refine HA.put h.ha (λx hx=>?_) hv _ rfl;rw[<-h.P3];exact wh zN x hx
 .rw [List.map_append,List.nodup_append];exact⟨h.nd,by simp,λx hx y hy=>by
   simp only[ayr,List.map_nil,ax2]at hy;subst hy;intro hxy;subst hxy;exact YX hx⟩
 .intro j;rw[yT,Bool.or_eq_true,h.done,List.map_append,ax_];simp only[decide_eq_true_eq,ayr,List.map_nil,ax2];exact⟨λhj=>hj.imp id Eq.symm,λhj=>hj.imp id Eq.symm⟩
 .intro j;rw[ayi,h.rest,List.map_append,ax_];simp only[bne_iff_ne,ne_eq,ayr,List.map_nil,ax2,not_or,and_assoc]
 .intro j hj;rw[List.map_append];exact List.mem_append_left _ (h.sub j hj)
 .intro W1 x W2 hW;rcases q_ hW with⟨rfl,rfl,rfl⟩ | ⟨NV,rfl,V_⟩
  .obtain⟨o',Jd,CZ⟩:=GL dF;rw[hi]at Jd;cases Jd;exact⟨o,hi,rfl,λe he hb=>(h.done _).1 (CZ e he hb)⟩
  .exact h.V8 W1 x NV V_
 .intro W1 x W2 hW JL;rcases q_ hW with⟨rfl,rfl,rfl⟩ | ⟨NV,rfl,V_⟩
  .refine⟨o,res.rd,st.hp,ρ,hi,axW,?_,λj _ ck GI=>⟨ck,by rw[e.1];exact GI,rfl⟩⟩;exact JK hT hi hg hr he h.hw.kn h.hw.lens cA (h.ha)
  .obtain⟨o',rd,hp,bG,h1,h2,h3,h4⟩:=h.V9 W1 x NV V_ JL;exact⟨o',rd,hp,bG,h1,axZ _ h2,h3,by rw[e.1];exact h4⟩
theorem Ab{aP:Array Bool}{i j:Nat}(hi:i<aP.size):l_ (aP.setIfInBounds i true) j=(decide (i=j)||l_ aP j):=by
 unfold l_;by_cases h:i=j
 .subst h;simp[Array.getElem?_setIfInBounds_self_of_lt hi]
 .rw [getD_set_ne false h];simp[h]
theorem DI.pending(h:DI P Fs w0 all ro nt a0 aP a w rest done log st ρ W)(wg:mM all pm=true)(DJ:Bj all pm=true){i:Nat}{o:Oper}(hi:all[i]? =some o)(yR:l_ aP i=false)
  (qZ: ∀e∈o.after,ayu .any e=true->l_ aP e.on=true) (YX:i∈W.map (·.1)) (Q:Exit->Act->World->Prop) (K:Act->World->Prop)
  (hK: ∀a',DI P Fs w0 all ro nt a0 (aP.setIfInBounds i true) a' w rest done log st ρ W->K a' w):wpOpIn (FW ro) 0 P all Q i K a w:=by
 obtain⟨x,hx,rfl⟩:=ayg.1 YX;obtain⟨W1,W2,hW⟩:=List.append_of_mem hx;obtain⟨o',rd,hp,bG,h1,h2,h3,h4⟩:=h.V9 W1 x W2 hW yR;rw[hi]at h1;cases h1;have iT:=h.nd;rw[hW]at iT;simp only[List.map_append,ayr]at iT;rw[List.nodup_append]at iT;obtain⟨aru,aaj,aak⟩:=iT;have hni:x.1 ∉ W1.map (·.1):=λhc=>aak _ hc _ axW rfl
 have akc:x.1 ∉ W2.map (·.1):=(List.nodup_cons.1 aaj).1;have xQ:x.1<aP.size:=by rw[h.V7];exact(ax1.1 hi).1
 obtain⟨S,hS⟩:=h.hw.own;have zN:x.2.1=o.dst:=by
  obtain⟨o2,C1,nj,_⟩:=h.V8 W1 x W2 hW;rw[hi]at C1;cases C1;exact nj
 refine h3 a w S K Q (λs hs=>?_) ?_ ?_ ?_ (hK _ ?_)
 .rw [h.act,hW];refine yS (λy hy LB=>h.before wg DJ hi qZ hW hni (.inl hs) y hy LB) λy hy LB=>?_
  rcases List.mem_cons.1 hy with rfl | hy
  .exact yR
  .exact h.behind wg DJ hi yR hW (.inl hs) y hy LB
 .rw [h.act,mL,mL]
 .rw [h.act,qt,<-qt W];exact h.ha.size
 .intro j hj ck GI;obtain⟨Vl,NQ,EG⟩:=h4 j hj ck GI;rw[<-EG];exact Bm S hS rd j hj Vl NQ
 .have xV: ∀j,l_ (aP.setIfInBounds x.1 true) j=(decide (x.1=j)||l_ aP j):=λj=>Ab xQ
  refine⟨h.hw,h.P3,?_,h.ha,h.nd,h.done,h.rest,λj hj=>?_,by simp[h.V7],λp op DK hp e he hb=>?_,h.V8,λA y B hWy hny=>?_⟩
  .have f1:W1.filter (λy=>l_ (aP.setIfInBounds x.1 true) y.1)=W1.filter (λy=>l_ aP y.1):=List.filter_congr λy hy=>by
    have:x.1≠y.1:=λe=>hni (by rw[e];exact ayg.2 ⟨y,hy,rfl⟩)
    rw[xV];simp[this]
   have f2:W2.filter (λy=>l_ (aP.setIfInBounds x.1 true) y.1)=W2.filter (λy=>l_ aP y.1):=List.filter_congr λy hy=>by
    have:x.1≠y.1:=λe=>akc (by rw[e];exact ayg.2 ⟨y,hy,rfl⟩)
    rw[xV];simp[this]
   rw[h.act,hW,ayH,ayH,f1,List.filter_cons_of_neg (by simp[yR]),List.filter_cons_of_pos (by rw[xV];simp),f2,lu,lu];have:x::W2.filter (λy=>l_ aP y.1)=[(x.1,x.2.1,x.2.2)]++W2.filter (λy=>l_ aP y.1):=rfl;rw[this,lu,vY,DF,zN];intro y hy s hs LB;obtain⟨VS,YN⟩:=ayi.1 hy;have:=h.behind wg DJ hi yR hW (.inr (zN▸hs)) y VS LB;rw[this]at YN;cases YN
  .rw [xV,Bool.or_eq_true]at hj;rcases hj with hj | hj
   .rw [<-of_decide_eq_true hj];exact YX
   .exact h.sub j hj
  .rw [xV,Bool.or_eq_true]at hp ⊢;rcases hp with hp | hp
   .have:=of_decide_eq_true hp;subst this;rw[hi]at DK;cases DK;exact .inr (qZ e he hb)
   .exact .inr (h.clL p op DK hp e he hb)
  .rw [xV,Bool.or_eq_false_iff]at hny;exact h.V9 A y B hWy hny.2
end
section
variable {P:Program} {C:Ctx} {al:Value->List HP->Prop} {Fs:List HP} {w0:World} {all:Array Oper} {pm:List Nat}
variable {ro:Option Nat} {nt:NT} {a0:Act} {aP:Array Bool} {a:Act} {w:World} {rest:List Nat} {done:Nat} {log:List (Nat×List Nat)} {st:St} {ρ:Env} {W:List Wr}
theorem Oper.QY{F:Fence}{n:Nat}{o:Oper}{K:Act->World->Prop}{Q:Exit->Act->World->Prop}(hh:o.wpIn F n P a w K Q):
  o.wpIn F n P a w (λa' w'=>K a' w'/\(a'.defers≠a.defers\/∃u,a'=a.put o.dst u)) Q:=by
 unfold Oper.wpIn at*;refine⟨hh.1,?_⟩;have hh:=hh.2;generalize (o.semAt F.round a.eval).run P w=r at*;cases r with
 | ok x w'=>
  cases x<;>simp only[Oper.uponIn]at hh ⊢ <;>
   first
    | exact⟨hh,.inr ⟨_,rfl⟩⟩
    | exact⟨hh,.inl (by rw[put_defers];simp)⟩
    | exact⟨hh.1,CallsIn.mono hh.2 (λe w'' he=>by cases e<;>first | exact⟨he,.inr ⟨_,rfl⟩⟩ | exact he)⟩
    | exact⟨hh.1,RowsIn.mono hh.2 (λ_ _ he=>⟨he,.inr ⟨_,rfl⟩⟩)⟩
    | exact⟨hh.1,RoundIn.mono hh.2 (λe w'' he=>by cases e<;>first | exact⟨he,.inr ⟨_,rfl⟩⟩ | exact he)⟩
    | exact hh
 | halt x w'=>cases x<;>simp only[Oper.uponIn]at hh ⊢ <;>exact hh
theorem Oper.JM{F:Fence}{n:Nat}{o:Oper}{K K':Act->World->Prop}{Q Q':Exit->Act->World->Prop}(h: ∀a w,K a w->K' a w)(hq: ∀c a w,¬Q (.panic c) a w)(ho: ¬LetsOut Q)
  (hh:o.wpIn F n P a w K Q):o.wpIn F n P a w K' Q':=by
 unfold Oper.wpIn at*;refine⟨hh.1,?_⟩;have hh:=hh.2;generalize (o.semAt F.round a.eval).run P w=r at*;cases r with
 | ok x w'=>
  cases x<;>simp only[Oper.uponIn]at hh ⊢ <;>
   first
    | exact h _ _ hh
    | exact⟨hh.1,CallsIn.mono hh.2 (λe w'' he=>by cases e<;>first | exact h _ _ he | exact absurd he (hq _ _ _) | exact absurd he ho)⟩
    | exact⟨hh.1,RowsIn.mono hh.2 (λ_ _ he=>h _ _ he)⟩
    | exact⟨hh.1,RoundIn.mono hh.2 (λe w'' he=>by cases e<;>first | exact h _ _ he | exact absurd he (hq _ _ _) | exact absurd he ho)⟩
 | halt x w'=>cases x<;>simp only[Oper.uponIn]at hh ⊢ <;>first | exact absurd hh (hq _ _ _) | exact hh
theorem NZ{c:cI}{hp nR:List Ck}{rd:List Nat}{ρ bG:Env}(h:kept c hp nR rd=true)(gp:iY c ρ bG){j:Nat}(hj:j∈rd){a:Ck}(ha:hp[j]? =some a):
  ∃b,nR[j]? =some b/\b.den bG=a.den ρ:=by
 have h1:=axS.1 h j hj;simp only[ha]at h1;split at h1
 .rename_i x b hx hb;cases hx;split at h1
  .rename_i l hl;refine⟨b,hb,(tY gp.va hl λy hy=>tW gp (axS.1 h1 y hy)).symm⟩
  .cases h1
 .rename_i hx;cases hx
 .cases h1
theorem DI.effect{n:Nat}(P4:uM P C al Fs w0 n){k:List KI}(iL:EH ρ k ro)(h:DI P Fs w0 all ro nt a0 aP a w rest done log st ρ W)(wg:mM all pm=true)(DJ:Bj all pm=true){e:Nat}{o:Oper}(he:all[e]? =some o)(her:e∈rest)
  (yR:l_ aP e=false) (qZ: ∀x∈o.after,ayu .any x=true->l_ aP x.on=true) (zN:sC st o.dst=true) {L:Nat->LC}
  (hv:VC P al (run C n (.ops all [o]:: .QZ all pm e rest done log st.fn st.nt st.fr st.hp st.aY::k) {st with fr:=restrict st.fr (slotsOf all o)}) ρ L) (Q:Exit->Act->World->Prop) (K:Act->World->Prop)
  (hK: ∀a' w',(∃m,m<n/\∃rest done log st bG L' W,VC P al (run C m (.uL all pm rest done log::k) st) bG L'/\Env.Le ρ bG/\(∀j,j<nl k->L' j=L j)/\DI P Fs w0 all ro nt a0 (aP.setIfInBounds e true) a' w' rest done log st bG W)->K a' w'):
  wpOpIn (FW ro) 0 P all Q e K a w:=by
 have heW:e ∉ W.map (·.1):=((h.rest e).1 her).2;have hel:e<aP.size:=by rw[h.V7];exact(ax1.1 he).1
 have ae6:a.defers=(oQ a0 W).defers:=by rw[h.act,mL,mL]
 have jR:nt.n<=a.tmps.size:=by rw[h.act,qt,<-qt W];exact h.ha.size
 have ha:HA (restrict st.fr (slotsOf all o)) nt ρ a:=by
  refine yQ h.ha (λs hs=>?_) ae6 jR;rw[h.act];have:=yS (a0:=a0) (aP:=aP) (W1:=W) (tail:=[]) (s:=s) (λy hy LB=>h.before wg DJ he qZ (tail:=[]) (by simp) heW (.inl hs) y hy LB) (λy hy=>by cases hy)
  rwa[List.append_nil]at this
 have hw:HW Fs w0 {st with fr:=restrict st.fr (slotsOf all o)} ρ w:=
  ⟨h.hw.lens,axS.2 λx hx=>axS.1 h.hw.m7 x (ayi.1 hx).1,h.hw.iu,h.hw.qF,h.hw.kn,h.hw.own,h.hw.same,h.hw.oq⟩
 have YY:=P4 ro all [o] _ _ ρ L a w hv hw (by rw[show({st with fr:=restrict st.fr (slotsOf all o)}:St).nt=st.nt from rfl,h.P3];exact ha) (iL.push rfl);have fin: ∀a' w',QK P C al Fs w0 n (.QZ all pm e rest done log st.fn st.nt st.fr st.hp st.aY::k) ρ L .normal a' w'->(a'.defers≠a.defers\/∃u,a'=a.put o.dst u)->K a' w':=by
  intro a' w' hq zH;obtain⟨k',hk,m,hm,ei,bG,L',g1,g2,g3,g4,g5⟩:=hq;cases hk;cases m with
  | zero=>exact g5.elim
  | succ m=>
   simp only[run,he]at g5;split at g5
   case isFalse=>exact g5.elim
   rename_i Bn;rw[ai,beq_iff_eq]at Bn;obtain⟨Bn,C2⟩:=Bn;obtain⟨u,rfl⟩: ∃u,a'=a.put o.dst u:=by
    rcases zH with zH | zH
    .rw [g4.defers,ae6,h.ha.defers,C2,h.P3]at zH;exact absurd (wi (Env.Le.fP h.hw.lens g1) (by rw[<-h.P3];exact h.hw.oq)).symm zH
    .exact zH
   split at g5
   case h_2=>exact g5.elim
   rename_i v tI;have gp:=Env.Le.fP h.hw.lens g1;have fO:=iZ.le h.hw.lens g3.lens g1;have I_:v.sc ei.aY=true:=by
    cases hd:o.dst with
    | none=>rw[hd]at tI;simp only[axU]at tI;subst tI;rfl
    | some d=>rw[hd]at tI;exact EE g3.m7 tI
   have LD:HW Fs w0 (iE ei st.fn st.nt st.fr) bG w':=⟨g3.lens,dz fO h.hw.m7,g3.iu,g3.qF,g3.kn,g3.own,g3.same,ey fO h.hw.oq⟩;have hpr:=ft (iE ei st.fn st.nt st.fr) o.dst v;have xV: ∀j,l_ (aP.setIfInBounds e true) j=(decide (e=j)||l_ aP j):=λj=>Ab hel
   refine hK _ _ ⟨m,by omega,_,_,_,_,bG,L',W++[(e,o.dst,u)],g5,g1,g2,?_⟩;refine⟨LD.put I_,by rw[hpr.2.2.2.1];exact h.P3,?_,?_,?_,?_,?_,?_,by simp[h.V7],?_,?_,?_⟩
   .have f1:W.filter (λy=>l_ (aP.setIfInBounds e true) y.1)=W.filter (λy=>l_ aP y.1):=List.filter_congr λy hy=>by
     have:e≠y.1:=λee=>heW (by rw[ee];exact ayg.2 ⟨y,hy,rfl⟩)
     rw[xV];simp[this]
    rw[ayH,f1,List.filter_cons_of_pos (by rw[xV];simp),List.filter_nil,lu,vY,<-h.act]
   .rw [lu,vY];have ha3:=h.ha.more h.hw.m7 (by rw[<-h.P3];exact h.hw.oq) gp;cases hd:o.dst with
    | none=>exact ha3
    | some d=>
     have hdl:d<nt.n:=by rw[<-h.P3];exact wh zN d hd
     refine HA.put ha3 (λx hx=>by cases hx;exact hdl) ?_ _ rfl;rw[hd]at tI;have:=g4.aQ d v tI;rw[hd,Bi a d u (ax7 hdl jR)]at this;exact this
   .rw [List.map_append,List.nodup_append];exact⟨h.nd,by simp,λx hx y hy=>by
     simp only[ayr,List.map_nil,ax2]at hy;subst hy;intro hxy;subst hxy;exact heW hx⟩
   .intro j;rw[yT,Bool.or_eq_true,h.done,List.map_append,ax_];simp only[decide_eq_true_eq,ayr,List.map_nil,ax2];exact⟨λhj=>hj.imp id Eq.symm,λhj=>hj.imp id Eq.symm⟩
   .intro j;rw[ayi,h.rest,List.map_append,ax_];simp only[bne_iff_ne,ne_eq,ayr,List.map_nil,ax2,not_or,and_assoc]
   .intro j hj;rw[List.map_append,ax_];rw[xV,Bool.or_eq_true]at hj;rcases hj with hj | hj
    .right;rw[<-of_decide_eq_true hj];simp
    .exact .inl (h.sub j hj)
   .intro p op DK hp x hx hb;rw[xV,Bool.or_eq_true]at hp ⊢;rcases hp with hp | hp
    .have:=of_decide_eq_true hp;subst this;rw[he]at DK;cases DK;exact .inr (qZ x hx hb)
    .exact .inr (h.clL p op DK hp x hx hb)
   .intro W1 x W2 hW;rcases q_ hW with⟨rfl,rfl,rfl⟩ | ⟨NV,rfl,V_⟩
    .exact⟨o,he,rfl,λx hx hb=>h.sub _ (qZ x hx hb)⟩
    .exact h.V8 W1 x NV V_
   .intro W1 x W2 hW JL;rcases q_ hW with⟨rfl,rfl,rfl⟩ | ⟨NV,rfl,V_⟩
    .rw [xV]at JL;simp at JL
    .rw [xV,Bool.or_eq_false_iff]at JL;obtain⟨o',rd,hp,tm,h1,h2,h3,h4⟩:=h.V9 W1 x NV V_ JL.2;refine⟨o',rd,hp,tm,h1,h2,h3,λj hj ck GI=>?_⟩;obtain⟨Vl,NQ,EG⟩:=h4 j hj ck GI;have hx:=axS.1 Bn _ h2;simp only[Bool.or_eq_true]at hx;rcases hx with hx | hx
     .have hxl:x.1<all.size:=(ax1.1 h1).1;have:=v_ DJ (λq=>l_ aP q=true) h.clL he qZ hxl hx;rw[JL.2]at this;cases this
     .obtain⟨b,hb,hbd⟩:=NZ hx gp hj NQ;exact⟨b,by rw[hpr.1];exact hb,by rw[hbd,EG]⟩
 unfold wpOpIn;simp only[he];unfold wpListIn at YY;split
 .rename_i ov;rw[if_pos ov]at YY;refine Oper.JM (λa' w' hh=>fin a' w' hh.1 hh.2) (λc a' w' hq=>?_) (λhq=>?_) (Oper.QY YY)
  .obtain⟨k',hk,_⟩:=hq;cases hk
  .obtain⟨_,_,k',hk,_⟩:=hq;cases hk
 .rename_i ov;rw[if_neg ov]at YY;exact⟨YY.1,fin _ _ YY.2 (.inr ⟨undef,rfl⟩)⟩
theorem DI.descend(hT:bD P C.T=true){k:List KI}{L:Nat->LC}: ∀{m:Nat} {rest:List Nat} {done:Nat} {log:List (Nat×List Nat)} {st:St} {W:List Wr},
  VC P al (run C m (.uL all pm rest done log::k) st) ρ L->DI P Fs w0 all ro nt a0 aP a w rest done log st ρ W->
  ∃m',m'<=m/\∃rest done log st W,VC P al (run C m' (.uL all pm rest done log::k) st) ρ L/\DI P Fs w0 all ro nt a0 aP a w rest done log st ρ W/\
   (rest=[]\/(rest.find? λi=>EI all i&&ow all done i)=none)
 | 0,rest,done,log,st,W,hv,_=>hv.elim
 | m+1,[],done,log,st,W,hv,h=>⟨m+1,Nat.le_refl _,[],done,log,st,W,hv,h,.inl rfl⟩
 | m+1,x::r,done,log,st,W,hv,h=>by
  cases hf:(x::r).find? λi=>EI all i&&ow all done i with
  | none=>exact⟨m+1,Nat.le_refl _,x::r,done,log,st,W,hv,h,.inr hf⟩
  | some i=>
   have EJ:=List.mem_of_find?_eq_some hf;have iD:=List.find?_some hf;simp only[ai]at iD;simp only[run,hf]at hv;split at hv
   case h_2=>exact hv.elim
   rename_i o ho;split at hv
   case isFalse=>exact hv.elim
   rename_i zN;split at hv
   .exact hv.elim
   .rename_i g hg;split at hv
    case isFalse=>exact hv.elim
    rename_i hgs;split at hv
    case h_2=>exact hv.elim
    rename_i res GM;split at hv
    case h_2=>exact hv.elim
    rename_i Wb;obtain⟨cA,hv⟩:=jW h.hw.kn hv;obtain⟨m',Bc,q⟩:=DI.descend hT hv (h.quiet hT EJ iD.2 ho zN hg hgs GM Wb cA);exact⟨m',by omega,q⟩
def YZ(all:Array Oper)(aP:Array Bool):Nat:=(List.range all.size).countP λi=> !l_ aP i
theorem Wd(hl:aP.size=all.size){i:Nat}(hi:i<all.size)(hn:l_ aP i=false):YZ all (aP.setIfInBounds i true)+1<=YZ all aP:=by
 unfold YZ;have key: ∀(l:List Nat),l.Nodup->i∈l->l.countP (λj=> !l_ (aP.setIfInBounds i true) j)+1<=l.countP (λj=> !l_ aP j):=by
  intro l
  induction l with
  | nil=>intro _ h;cases h
  | cons x r ih=>
   intro iT hm;rw[List.nodup_cons]at iT;rw[List.countP_cons,List.countP_cons,Ab (by omega)];by_cases hx:i=x
   .subst hx;have:r.countP (λj=> !l_ (aP.setIfInBounds i true) j)=r.countP (λj=> !l_ aP j):=List.countP_congr λj hj=>by
     have:i≠j:=λe=>iT.1 (e▸hj)
     rw[Ab (by omega)];simp[this]
    rw[this];simp[hn]
   .have Bc:i∈r:=(List.mem_cons.1 hm).resolve_left hx;have:=ih iT.2 Bc;simp only[hx,decide_false,Bool.false_or];omega
 exact key _ List.nodup_range (ayc.2 hi)
theorem Q0(h:YZ all aP=0): ∀i,i<all.size->l_ aP i=true:=by
 intro i hi;unfold YZ at h;rw[List.countP_eq_zero]at h;have:=h i (ayc.2 hi);simpa using this
theorem DI.N0(h:DI P Fs w0 all ro nt a0 aP a w rest done log st ρ W)(DJ:Bj all pm=true)(hr:Region.ready .any all aP=[]): ∀i,i<all.size->l_ aP i=true:=by
 intro i
 induction i using Nat.strongRecOn with
 | _ i ih=>
  intro hi;cases hl:l_ aP i with
  | true=>rfl
  | false=>
   have hoi:all[i]? =some all[i]:=Array.getElem?_eq_getElem hi;have:i∈Region.ready .any all aP:=by
    rw[mem_ready];refine⟨?_,_,hoi,λe he hb=>?_⟩
    .have xQ:i<aP.size:=by rw[h.V7];exact hi
     unfold l_ at hl;rw[ayf,Array.getElem?_eq_getElem xQ]at hl ⊢;exact hl
    .have:=(xP DJ hoi).1 e he hb;exact ih e.on this (by omega)
   rw[hr]at this;cases this
theorem LF{aP:Array Bool}{a:Act}{w:World}{m:Nat}{n:Nat}{rest:List Nat}{done:Nat}{log:List (Nat×List Nat)}{st:St}{ρ:Env}{W:List Wr}{k:List KI}{L:Nat->LC}{LA:Env}{Lb:Nat->LC}
  (oO: ∀i,i<all.size->l_ aP i=true) (hm:m<=n) (hv:VC P al (run C m (.uL all pm rest done log::k) st) ρ L) (hle:Env.Le LA ρ) (hL: ∀j,j<nl k->L j=Lb j)
  (h:DI P Fs w0 all ro nt a0 aP a w rest done log st ρ W):QK P C al Fs w0 n k LA Lb .normal a w:=by
 have hre:rest=[]:=by
  cases hr:rest with
  | nil=>rfl
  | cons x r=>
   have:=(h.rest x).1 (by rw[hr];exact axW);exact absurd (h.sub x (oO x this.1)) this.2
 subst hre;cases m with
 | zero=>exact hv.elim
 | succ m=>
  simp only[run]at hv;have hW:W.filter (λx=>l_ aP x.1)=W:=by
   rw[List.filter_eq_self];intro x hx;obtain⟨A,B,hAB⟩:=List.append_of_mem hx;obtain⟨o,ho,_⟩:=h.V8 A x B hAB;exact oO x.1 (ax1.1 ho).1
  have ae8:=h.act;rw[hW]at ae8;refine⟨k,rfl,m,by omega,st,ρ,L,hle,hL,h.hw,?_,hv⟩;rw[ae8,h.P3];exact h.ha
theorem DL{ρ:Env}{L:Nat->LC}: ∀{l:List F},VC P al (Q1 l) ρ L->∀x∈l,VC P al x ρ L
 | [],h,_,_=>h.elim
 | [x],h,y,hy=>by
  rw[ax2]at hy;exact hy▸h
 | x::y::r,h,z,hz=>by
  rcases List.mem_cons.1 hz with rfl | hz
  .exact h.1
  .exact DL h.2 z hz
theorem Q2(hT:bD P C.T=true){n:Nat}(P4: ∀m,m<n->uM P C al Fs w0 m)(wg:mM all pm=true)(DJ:Bj all pm=true){k:List KI}{LA:Env}{Lb:Nat->LC}(iL:EH LA k ro):
  ∀(fuel:Nat) (aP:Array Bool) (a:Act) (w:World),YZ all aP<=fuel->
   (∃m,m<=n/\∃rest done log st ρ L W,VC P al (run C m (.uL all pm rest done log::k) st) ρ L/\Env.Le LA ρ/\(∀j,j<nl k->L j=Lb j)/\DI P Fs w0 all ro nt a0 aP a w rest done log st ρ W)->
   wpAnyIn (FW ro) 0 P .any all (QK P C al Fs w0 n k LA Lb) fuel aP a w:=by
 intro fuel
 induction fuel with
 | zero=>
  intro aP a w hf ⟨m,hm,rest,done,log,st,ρ,L,W,hv,hle,hL,h⟩;have oO:=Q0 (Nat.le_zero.1 hf);refine⟨?_,?_⟩
  .cases hr:Region.ready .any all aP with
   | nil=>rfl
   | cons i r=>
    have:i∈Region.ready .any all aP:=by rw[hr];exact axW
    rw[mem_ready]at this;obtain⟨h0,o,ho,_⟩:=this;have hi:i<all.size:=(ax1.1 ho).1;have hl:=oO i hi;unfold l_ at hl;have xQ:i<aP.size:=by rw[h.V7];exact hi
    rw[ayf,Array.getElem?_eq_getElem xQ]at hl h0;simp at hl h0;rw[hl]at h0;cases h0
  .exact LF oO hm hv hle hL h
 | succ fuel ih=>
  intro aP a w hf ⟨m,hm,rest,done,log,st,ρ,L,W,hv,hle,hL,h⟩;refine⟨λhr=>LF (h.N0 DJ hr) hm hv hle hL h,λi hi=>?_⟩;rw[mem_ready]at hi;obtain⟨h0,o,ho,CZ⟩:=hi;have xQ:i<all.size:=(ax1.1 ho).1;have yR:l_ aP i=false:=by
   have:i<aP.size:=by rw[h.V7];exact xQ
   unfold l_;rw[ayf,Array.getElem?_eq_getElem this]at h0 ⊢;exact h0
  have ae9:YZ all (aP.setIfInBounds i true)<=fuel:=by
   have:=Wd h.V7 xQ yR;omega
  obtain⟨m',Bc,Q3,Q4,akg,ei,W',tI,h',We⟩:=DI.descend hT hv h;by_cases YX:i∈W'.map (·.1)
  .exact h'.pending wg DJ ho yR CZ YX _ _ λa' hD=>ih _ _ _ ae9 ⟨m',by omega,Q3,Q4,akg,ei,ρ,L,W',tI,hle,hL,hD⟩
  .have hir:i∈Q3:=(h'.rest i).2 ⟨xQ,YX⟩;have dF:ow all Q4 i=true:=NW ho λe he hb=>(h'.done _).2 (h'.sub _ (CZ e he hb))
   rcases We with rfl | We
   .cases hir
   .cases m' with
    | zero=>exact tI.elim
    | succ m'=>
     cases hre:Q3 with
     | nil=>rw[hre]at hir;cases hir
     | cons x r=>
      rw[hre]at tI We;simp only[run,We]at tI;have hiL:i∈(x::r).filter (ow all Q4):=ayi.2 ⟨hre▸hir,dF⟩;have tI:=DL tI _ (ayg.2 ⟨i,hiL,rfl⟩);simp only[ho]at tI;split at tI
      case isFalse=>exact tI.elim
      rename_i zN;rw[<-hre]at tI;refine DI.effect (P4 m' (by omega)) (iL.le hle) h' wg DJ ho hir yR CZ zN tI _ _ λa' w' hq=>ih _ _ _ ae9 ?_
      obtain⟨m2,hm2,ae_,afa,log2,GN,LG,L2,W2,q1,q2,q3,q4⟩:=hq;exact⟨m2,by omega,ae_,afa,log2,GN,LG,L2,W2,q1,hle.trans q2,λj hj=>(q3 j hj).trans (hL j hj),q4⟩
theorem HW.drew(h:HW Fs w0 st ρ w)(d:Nat):HW Fs w0 st ρ {w with drawn:=d}:=by
 refine⟨h.lens,h.m7,h.iu,h.qF,h.kn,?_,h.same.trans ⟨rfl,rfl,rfl,Nat.le_refl _⟩,h.oq⟩;obtain⟨S,hS⟩:=h.own;exact⟨S,hS.ZW (Nat.le_refl _) λ_ _=>rfl⟩
theorem GO(hT:bD P C.T=true)(hm:P.follows .mixedOrders=true){n:Nat}(P4: ∀m,m<n->uM P C al Fs w0 m):JN P C al Fs w0 n:=by
 intro ro id all pm k st ρ L a w hv wg DJ hw ha iL;refine wpIn_region_any hm (Q2 (ro:=ro) (nt:=st.nt) (a0:=a) hT P4 wg DJ iL _ _ _ _ ?_ ⟨n,Nat.le_refl _,_,_,_,_,ρ,L,[],hv,Env.Le.refl _,λ_ _=>rfl,?_⟩)
 .unfold YZ;exact Nat.le_trans List.countP_le_length (by simp)
 .have FY: ∀i,l_ (Array.replicate all.size false) i=false:=by
   intro i;unfold l_;rw[ayf];by_cases hi:i<all.size
   .simp [hi]
   .rw [Array.getElem?_eq_none (by simpa using hi)];rfl
  refine⟨hw.drew _,rfl,rfl,ha,List.nodup_nil,λi=>by simp,λi=>by simp,λi hi=>?_,by simp,λp o _ hp=>?_,λW1 x W2 hW=>?_,λW1 x W2 hW=>?_⟩
  .rw [FY]at hi;cases hi
  .rw [FY]at hp;cases hp
  .simp at hW
  .simp at hW
end
end Go.RX
