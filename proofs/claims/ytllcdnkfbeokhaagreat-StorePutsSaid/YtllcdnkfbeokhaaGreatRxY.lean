/- Executor. -/
import Derived.Test.YtllcdnkfbeokhaaGreatRxX
import Derived.RangeFuncNested
open Array renaming ext' -> ayw, getD_eq_getD_getElem? -> ayf, getElem?_eq_some_iff -> ax1
open Bool renaming and_eq_true -> ai
open Go.Result renaming andThen_ok -> ax0
open Go.Sem renaming run_bind -> ax9, run_pure -> ayj
open List renaming all_eq_true -> axS, flatMap_cons -> ayn, getElem?_append_left -> axX, getElem?_eq_getElem -> ays, getElem?_eq_some_iff -> axT, mem_cons_of_mem -> axZ, mem_cons_self -> axW, mem_map -> ayg, mem_of_getElem? -> ayh, mem_or_eq_of_mem_set -> ayy
open Nat renaming blt_eq -> ayb, le_succ -> ayC
open Option renaming map_eq_some_iff -> axV
open Option.some renaming injEq -> axU
namespace Go.RX
def im(P:Program)(C:Ctx):Prop:= ∀f az hp r (ρ:Env),FI C f az hp=some r->(∀b∈r.vcs,b.prop ρ)->
 ao P f (SV.bF ρ az) ((r.use.map λi=>hp.getD i .emp).map (Ck.den ρ)) λx hs=>x=r.val.val ρ/\hs=r.new.map (Ck.den ρ)
theorem im.none{P:Program}{C:Ctx}(h:C.pure=λ_=>Option.none):im P C:=by
 intro f az hp r ρ hp;simp[FI,h]at hp
def qu(P:Program)(FT:List (Nat×Func)):Prop:= ∀x∈FT,P.funcs[x.1]? =some x.2/\(x.2.name== "runtime.NumGoroutine")=false
section
variable {P:Program} {C:Ctx} {al:Value->List HP->Prop} {Fs:List HP} {w0:World}
theorem py{ρ:Env}(a b:List SV):SV.bF ρ (a++b)=SV.bF ρ a++SV.bF ρ b:=by
 induction a with
 | nil=>rfl
 | cons x r ih=>simp only[List.cons_append,SV.bF,ih]
theorem I4{ρ:Env}: ∀(l:List SV) (i:Nat),(SV.bF ρ l)[i]? =(l[i]?).map (SV.val ρ)
 | [],i=>by simp[SV.bF]
 | x::r,0=>by simp[SV.bF]
 | x::r,i+1=>by simp only[SV.bF,List.getElem?_cons_succ];exact I4 r i
theorem Ef{ρ:Env}: ∀(l:List SV) (n s:Nat) (v:SV),look (gg n l) s=some v->n<=s/\l[s - n]? =some v
 | [],n,s,v,h=>by cases h
 | x::r,n,s,v,h=>by
  unfold gg look at h;split at h
  .rename_i hs;rw[beq_iff_eq]at hs;subst hs;cases h;exact⟨Nat.le_refl _,by simp⟩
  .rename_i hs;obtain⟨h1,h2⟩:=Ef (ρ:=ρ) r (n+1) s v h;refine⟨by omega,?_⟩;rw[show s - n=(s - (n+1))+1 by omega,List.getElem?_cons_succ];exact h2
theorem Ac{c:cI}: ∀(l:List SV) (n:Nat),SV.rF c l=true->nF c (gg n l)=true
 | [],n,_=>rfl
 | x::r,n,h=>by
  simp only[SV.rF,ai]at h;simp only[gg,nF,List.all_cons,ai];exact⟨h.1,Ac r (n+1) h.2⟩
theorem Bo{ρ:Env}(az:List SV)(nt:Nat):HA (gg 0 az) ⟨nt,[]⟩ ρ {tmps:=(SV.bF ρ az).toArray++Array.replicate (nt - (SV.bF ρ az).toArray.size) undef,defers:=[]}:=by
 refine⟨rfl,by simp;omega,λs v hs=>?_⟩;obtain⟨_,h2⟩:=Ef (ρ:=ρ) az 0 s v hs;rw[Nat.sub_zero]at h2;have h3:(SV.bF ρ az)[s]? =some (v.val ρ):=by rw[I4,h2];rfl
 rw[ayf,Array.getElem?_append_left (by simpa using (axT.1 h3).1)];simp[h3]
theorem U9{ρ:Env}{a:Act}{w:World}{fr:List (Nat×SV)}{nt:NT}(ha:HA fr nt ρ a){o:Oper}{f:Nat}{az:List SV}(h:Cq (look fr) o=some (f,az))
  {fd:Func} (hf:P.funcs[f]? =some fd) (hn:(fd.name== "runtime.NumGoroutine")=false) {c:Code} (hb:fd.body=some c):
  (execOp a.eval o).run P w= .ok (.enter f (SV.bF ρ az).toArray) w/\∀c,o.op≠ .defer c:=by
 unfold Cq at h;split at h
 .rename_i fop args argTypes DK;split at h
  .rename_i f' jL ZO h1 h2;cases h;have e1:=eW ha.eval h1;have e2:=iC ha.eval _ _ h2;have e3:Array.map a.eval args=(SV.bF ρ ZO).toArray:=ayw (by rw[Array.toList_map,e2]);refine⟨?_,λc hc=>by rw[DK]at hc;cases hc⟩;simp only[execOp,DK,resolve,e1,SV.val,Deferred.ofValue,ax9,ayj,ax0,invoke,callFunc,e3];have hn': ¬fd.name= "runtime.NumGoroutine" :=by simpa using hn
   simp[hf,hn',hb,py]
  .rename_i f' first ZO h1 h2
   cases h;have e1:=eW ha.eval h1;have e2:=iC ha.eval _ _ h2;have e3:Array.map a.eval args=(SV.bF ρ ZO).toArray:=ayw (by rw[Array.toList_map,e2]);refine⟨?_,λc hc=>by rw[DK]at hc;cases hc⟩;simp only[execOp,DK,resolve,e1,SV.val,Deferred.ofValue,ax9,ayj,ax0,invoke,callFunc,e3];have hn': ¬fd.name= "runtime.NumGoroutine" :=by simpa using hn
   simp[hf,hn',hb,py]
  .cases h
 .cases h
theorem Yz{ρ:Env}{a:Act}{w:World}{fr:List (Nat×SV)}{nt:NT}(ha:HA fr nt ρ a){o:Oper}{f:Nat}{az:List SV}(h:Cq (look fr) o=some (f,az)):
  (execOp a.eval o).run P w=(callFunc f (SV.bF ρ az).toArray).run P w/\∀c,o.op≠ .defer c:=by
 unfold Cq at h;split at h
 .rename_i fop args argTypes DK;split at h
  .rename_i f' jL ZO h1 h2;cases h;have e1:=eW ha.eval h1;have e2:=iC ha.eval _ _ h2;have e3:Array.map a.eval args=(SV.bF ρ ZO).toArray:=ayw (by rw[Array.toList_map,e2]);refine⟨?_,λc hc=>by rw[DK]at hc;cases hc⟩;simp only[execOp,DK,resolve,e1,SV.val,Deferred.ofValue,ax9,ayj,ax0,invoke,e3,py];simp
  .rename_i f' first ZO h1 h2
   cases h;have e1:=eW ha.eval h1;have e2:=iC ha.eval _ _ h2;have e3:Array.map a.eval args=(SV.bF ρ ZO).toArray:=ayw (by rw[Array.toList_map,e2]);refine⟨?_,λc hc=>by rw[DK]at hc;cases hc⟩;simp only[execOp,DK,resolve,e1,SV.val,Deferred.ofValue,ax9,ayj,ax0,invoke,e3,py];simp
  .cases h
 .cases h
theorem Ng{ro:Option Nat}{n:Nat}{f:FuncId}{args:Array Value}{w:World}{R:Ending->World->Prop}(h:Calls P f args w R):CallsIn (FW ro) n P f args w R:=by
 have:CallsIn Fence.wide n P f args w R:=callsIn_wide.2 h;exact this
theorem U_{ro:Option Nat}{n:Nat}{f:FuncId}{args:Array Value}{w:World}{R:Ending->World->Prop}(h:CallsIn (FW none) n P f args w R):CallsIn (FW ro) n P f args w R:=h
theorem CF{fn:Func}{tmps:Array Value}{R:Ending->World->Prop}{u:FrameMode}(hu:u≠ .run){r:List Deferred}{i:Nat}: ∀{l:List Nat} {hs:List HP} {w:World},hs[i]? =some (mV l)->aU (hs++Fs) w->
  (∀w',aU (hs.set i HP.emp++Fs) w'->jm w w'->LeavesInM (FW none) 0 P fn tmps R r u w')->LeavesInM (FW none) 0 P fn tmps R (l.map (λb=>{target:= .collected b,args:= #[]})++r) u w
 | [],hs,w,hi,ho,hk=>by
  obtain⟨S,hS⟩:=ho;refine hk w ?_ (jm.refl w);have er:=hS.at_ i _ (by rw[axX (axT.1 hi).1];exact hi);exact aU.step hS i _ _ hi rfl (λ_=>False) (Nat.le_refl _) (λ_ _ _=>rfl) (λk hk=>hk) (λk hk=>hk.elim)
 | b::l,hs,w,hi,ho,hk=>by
  obtain⟨S,hS⟩:=ho;have cC:=(axT.1 hi).1;have er:=hS.at_ i _ (by rw[axX cC];exact hi);obtain⟨⟨p1,p2,p3⟩,p4⟩:=er;have qO:w.heap[b]? =some (.deferred (some [])):=p3 b axW;have hbn:=(List.nodup_cons.1 p2);refine⟨hu,.inl ⟨b,w.putObj b (.deferred none),rfl,run_takeDeferred qO,?_⟩⟩;have eX:aU (hs.set i (mV l)++Fs) (w.putObj b (.deferred none)):=by
   refine aU.step hS i _ _ hi rfl (λk=>k∈l) (by simp[World.putObj]) (λk hk hn=>?_) ⟨λk=>Iff.rfl,hbn.2,λk hk=>?_⟩ (λk hk=> .inl ((p1 k).2 (axZ _ hk)))
   .exact World.putObj_heap_other (λe=>hn ((p1 k).2 (by rw[e];exact axW)))
   .rw [World.putObj_heap_other (λe=>hbn.1 (by rw[<-e];exact hk))];exact p3 k (axZ _ hk)
  refine CF hu (l:=l) (hs:=hs.set i (mV l)) (by rw[List.getElem?_set_self cC]) eX λw' Jd uP=>?_
  rw[List.set_set]at Jd;exact hk w' Jd ((show jm w (w.putObj b (.deferred none))from⟨rfl,rfl,rfl,by simp⟩).trans uP)
theorem s5{fn:Func}{tmps:Array Value}{R:Ending->World->Prop}{u:FrameMode}(hu:u≠ .run){ρ:Env}: ∀{ds:List MK} {hp nR:List Ck} {w:World},leave hp ds=some nR->aU (hp.map (Ck.den ρ)++Fs) w->
  (∀w',aU (nR.map (Ck.den ρ)++Fs) w'->jm w w'->LeavesInM (FW none) 0 P fn tmps R [] u w')->LeavesInM (FW none) 0 P fn tmps R (marks ρ ds) u w
 | [],hp,nR,w,h,ho,hk=>by
  simp only[leave,axU]at h;subst h;exact hk w ho (jm.refl w)
 | .many d::ds,hp,nR,w,h,ho,hk=>by
  unfold leave at h;split at h
  .rename_i i hi;rw[List.findIdx?_eq_some_iff_getElem]at hi;obtain⟨cC,hd,_⟩:=hi;have sA:hp[i]? =some (.vT d):=by
    cases hc:hp[i]with
    | vT b=>
     rw[hc]at hd;simp only[Ck.yw,beq_iff_eq]at hd;subst hd;rw[ays cC,hc]
    | _=>rw[hc]at hd;simp[Ck.yw]at hd
   have NS:(hp.map (Ck.den ρ))[i]? =some (mV (rS (ρ.bv.getD d 0))):=by rw[List.getElem?_map,sA];rfl
   rw[show marks ρ (.many d::ds)=(rS (ρ.bv.getD d 0)).map (λb=>{target:= .collected b,args:= #[]})++marks ρ ds by simp only[marks,ayn,MK.blocks,List.map_append]];refine CF hu NS ho λw' Jd uP=>?_
   have C1:aU ((hp.set i .emp).map (Ck.den ρ)++Fs) w':=by rw[List.map_set];exact Jd
   exact s5 hu h C1 λw2 h2 ao2=>hk w2 h2 (uP.trans ao2)
  .cases h
 | .one d::ds,hp,nR,w,h,ho,hk=>by
  unfold leave at h;split at h
  .rename_i i hi;rw[List.findIdx?_eq_some_iff_getElem]at hi;obtain⟨cC,hd,_⟩:=hi;have sA:hp[i]? =some (.NP d):=by
    cases hc:hp[i]with
    | NP b=>
     rw[hc]at hd;simp only[Ck.Ed,beq_iff_eq]at hd;subst hd;rw[ays cC,hc]
    | _=>rw[hc]at hd;simp[Ck.Ed]at hd
   obtain⟨S,hS⟩:=ho;have NS:(hp.map (Ck.den ρ))[i]? =some (Az (ρ.bv.getD d 0)):=by rw[List.getElem?_map,sA];rfl
   have er:=hS.at_ i _ (by rw[axX (by simpa using cC)];exact NS);have qO:w.heap[ρ.bv.getD d 0]? =some (.deferred (some [])):=er.1.2;have Vk:ρ.bv.getD d 0<w.heap.size:=(ax1.1 qO).1;refine⟨hu,.inl ⟨ρ.bv.getD d 0,w.putObj (ρ.bv.getD d 0) (.deferred none),rfl,run_takeDeferred qO,?_⟩⟩;have eX:aU ((hp.set i .emp).map (Ck.den ρ)++Fs) (w.putObj (ρ.bv.getD d 0) (.deferred none)):=by
    rw[List.map_set];refine aU.step hS i _ _ NS rfl (λ_=>False) (by simp[World.putObj]) (λk hk hn=>?_) (λk hk=>hk) (λk hk=>hk.elim);exact World.putObj_heap_other (λe=>hn ((er.1.1 k).2 e))
   refine s5 hu h eX λw' Jd uP=>hk w' Jd ((show jm w (w.putObj (ρ.bv.getD d 0) (.deferred none))from⟨rfl,rfl,rfl,by simp⟩).trans uP)
  .cases h
theorem CG{c:cI}: ∀{ds:List MK} {hp nR:List Ck},leave hp ds=some nR->hp.all (Ck.sc c)=true->nR.all (Ck.sc c)=true
 | [],hp,nR,h,hs=>by simp only[leave,axU]at h;subst h;exact hs
 | .many d::ds,hp,nR,h,hs=>by
  unfold leave at h;split at h
  .refine CG h (axS.2 λx hx=>?_);rcases ayy hx with hx | rfl
   .exact axS.1 hs x hx
   .rfl
  .cases h
 | .one d::ds,hp,nR,h,hs=>by
  unfold leave at h;split at h
  .refine CG h (axS.2 λx hx=>?_);rcases ayy hx with hx | rfl
   .exact axS.1 hs x hx
   .rfl
  .cases h
theorem pI{fd:Func}{R:Ending->World->Prop}{st ei:St}{ρ:Env}{a:Act}{w:World}(h:o9 st=some ei)(hw:HW Fs w0 st ρ w)(ha:HA st.fr st.nt ρ a)
  (hk: ∀w',HW Fs w0 ei ρ w'->∃v,(results fd a.tmps).run P w'= .ok v w'/\R (.returned v) w'):LeavesInM (FW none) 0 P fd a.tmps R a.defers .returning w:=by
 unfold o9 at h;rw[axV]at h;obtain⟨nR,hl,rfl⟩:=h;rw[ha.defers];refine s5 (by simp) hl hw.own λw' ho uP=>?_
 obtain⟨v,h1,h2⟩:=hk w' ⟨hw.lens,hw.m7,CG hl hw.iu,hw.qF,hw.kn,ho,hw.same.trans uP,hw.oq⟩;exact⟨v,h1,h2⟩
theorem I5(hT:bD P C.T=true){n:Nat}(yU:sD P C al Fs w0 n){c:Code}{fd:Func}{f:Nat}(hf:P.funcs[f]? =some fd)(hb:fd.body=some c){k:List KI}{st:St}{ρ:Env}{L:Nat->LC}{w:World}{az:List SV}{fn:Nat}{nt:NT}{fr:List (Nat×SV)}{d:Option Nat}
  (hv:VC P al (run C n (.code c:: .call fn nt fr d fd::k) (iE st f ⟨fd.ntmps,[]⟩ (gg 0 az))) ρ L) (kS:SV.rF st.aY az=true) (hw:HW Fs w0 st ρ w) (hrf: ∀l r fn nt fr ps x y fd,KI.rf l r fn nt fr ps x y fd∈k->∃yV c0,iZ yV c0/\Env.Le yV ρ/\nF c0 fr=true/\r<c0.r/\(yV.lr.getD r j6).params=ps/\(yV.lr.getD r j6).assign=x/\(yV.lr.getD r j6).body=y/\HA fr ⟨nt.n,[]⟩ yV {tmps:=(yV.lr.getD r j6).tmps,defers:=[]}) {R:Ending->World->Prop}
  (hR: ∀v w' m ei bG L',m<n->Env.Le ρ bG->(∀j,j<nl k->L' j=L j)->HW Fs w0 ei bG w'->v.sc ei.aY=true->sC (iE ei fn nt fr) d=true->
   VC P al (run C m k ((iE ei fn nt fr).put d v)) bG L'->R (.returned (v.val bG)) w'):
  CallsIn (FW none) 0 P f (SV.bF ρ az).toArray w R:=by
 refine callsIn_of_wp_marks hf hb trivial ?_ rfl;have hw':HW Fs w0 (iE st f ⟨fd.ntmps,[]⟩ (gg 0 az)) ρ w:=⟨hw.lens,Ac az 0 kS,hw.iu,hw.qF,hw.kn,hw.own,hw.same,rfl⟩;refine wpIn_mono (yU none c _ _ ρ L _ w hv hw' (Bo az fd.ntmps) ⟨λl r fn nt fr ps x y fd hm=>hrf l r fn nt fr ps x y fd (by simpa using hm),rfl⟩) ?_;have key: ∀a' w',At P C al Fs w0 n (.call fn nt fr d fd::k) ρ L a' w'->LeavesInM (FW none) 0 P fd a'.tmps R a'.defers .returning w':=by
  intro a' w' ⟨m,hm,ei,bG,L',h1,h2,h3,h4,h5⟩;cases m with
  | zero=>exact h5.elim
  | succ m=>
   simp only[run]at h5;split at h5
   case h_2=>exact h5.elim
   rename_i GN LH;have Q5:GN.fr=ei.fr/\GN.nt=ei.nt/\GN.aY=ei.aY:=by
    unfold o9 at LH;rw[axV]at LH;obtain⟨nR,_,rfl⟩:=LH;exact⟨rfl,rfl,rfl⟩
   split at h5
   .rename_i v hv;split at h5
    .rename_i hc;simp only[ai]at hc;refine pI LH h3 h4 λw2 GQ=>?_
     refine⟨_,ra hT GQ (nt:=ei.nt) (by rw[Q5.1];exact h4) hv,hR v w2 m GN bG L' (by omega) h1 h2 GQ hc.2 hc.1 h5⟩
    .exact h5.elim
   .exact h5.elim
 intro e a' w' hq;obtain⟨k',hk,er⟩:=hq;cases e with
 | normal=>cases hk;exact key a' w' er
 | ret=>cases hk;exact key a' w' er
 | exit id=>cases hk
 | goto l=>cases hk
 | panic l=>cases hk
 | outgrown=>cases hk
theorem wh{st:St}{d:Option Nat}(h:sC st d=true): ∀x,d=some x->x<st.nt.n:=by
 intro x hx;subst hx;simpa[sC,ayb] using h
theorem vj{hp:List Ck}{l i r:Nat}{s:RS}{j:Jump}(h:recAt hp l=some (i,r,s,j)):hp[i]? =some (.mY l r s j):=by
 unfold recAt at h;split at h
 .rename_i q hq;split at h
  .rename_i l' r' s' j' hg;cases h;rw[List.findIdx?_eq_some_iff_getElem]at hq;obtain⟨cC,hd,_⟩:=hq;rw[ays cC,axU]at hg;rw[hg]at hd;simp only[Ck.isRec,beq_iff_eq]at hd;subst hd;rw[ays cC,hg]
  .cases h
 .cases h
theorem xg{l:Nat}: ∀{k:List KI} {r fn:Nat} {nt:NT} {fr:List (Nat×SV)} {ps:Array Tmp} {x y:Code},tF l k=some (r,fn,nt,fr,ps,x,y)->∃fd,KI.rf l r fn nt fr ps x y fd∈k
 | [],_,_,_,_,_,_,_,h=>by cases h
 | i::k,r,fn,nt,fr,ps,x,y,h=>by
  have go:tF l k=some (r,fn,nt,fr,ps,x,y)->∃fd,KI.rf l r fn nt fr ps x y fd∈i::k:=λh'=>by
   obtain⟨fd,hm⟩:=xg h';exact⟨fd,axZ _ hm⟩
  cases i with
  | rf l' r' fn' As Jl ps' x' y' fd'=>
   unfold tF at h;split at h
   .rename_i hl;rw[beq_iff_eq]at hl;cases h;subst hl;exact⟨fd',axW⟩
   .exact go h
  | _=>exact go h
theorem nU{st:St}{ρ:Env}{w:World}(hw:HW Fs w0 st ρ w){l i r:Nat}{s:RS}{j:Jump}(h:recAt st.hp l=some (i,r,s,j)):
  w.heap[ρ.bv.getD l 0]? =some (.loop {ρ.lr.getD r j6 with state:=s.st,pending:=j.code}):=by
 obtain⟨S,hS⟩:=hw.own;have hi:=vj h;have cC:=(axT.1 hi).1;exact(hS.at_ i ((Ck.mY l r s j).den ρ) (by rw[axX (by simpa using cC),List.getElem?_map,hi];rfl)).1.2
theorem EK{st:St}{ρ:Env}{w:World}(hw:HW Fs w0 st ρ w){l i r:Nat}{s:RS}{j:Jump}(h:recAt st.hp l=some (i,r,s,j))(s':RS)(j':Jump):
  HW Fs w0 {st with hp:=st.hp.set i (.mY l r s' j')} ρ (w.putObj (ρ.bv.getD l 0) (.loop {ρ.lr.getD r j6 with state:=s'.st,pending:=j'.code})):=by
 have hi:=vj h;have hb:=nU hw h;have Vk:ρ.bv.getD l 0<w.heap.size:=(ax1.1 hb).1;have cC:=(axT.1 hi).1;obtain⟨S,hS⟩:=hw.own;have NS:(st.hp.map (Ck.den ρ))[i]? =some ((Ck.mY l r s j).den ρ):=by rw[List.getElem?_map,hi];rfl
 have er:=hS.at_ i _ (by rw[axX (by simpa using cC)];exact NS);have kS:=axS.1 hw.iu _ (ayh hi);refine⟨hw.lens,hw.m7,axS.2 λq hq=>?_,hw.qF,hw.kn,?_,hw.same.trans ⟨rfl,rfl,rfl,by simp⟩,hw.oq⟩
 .rcases ayy hq with hq | rfl
  .exact axS.1 hw.iu q hq
  .exact kS
 .show aU ((st.hp.set i (.mY l r s' j')).map (Ck.den ρ)++Fs) _;rw[List.map_set];refine aU.step hS i _ _ NS rfl (S i) (by simp) (λk hk hn=>World.putObj_heap_other (λe=>hn ((er.1.1 k).2 e))) ⟨er.1.1,?_⟩ (λk hk=> .inl hk);exact World.putObj_heap_same Vk
theorem xh{ρ:Env}: ∀{l:List (Nat×SV)} {st nP:St} {a:Act} {w:World},m6 st l=some nP->HW Fs w0 st ρ w->HA st.fr st.nt ρ a->
  HW Fs w0 nP ρ w/\HA nP.fr nP.nt ρ (l.foldl (λa x=>a.put (some x.1) (x.2.val ρ)) a)/\nP.aY=st.aY/\nP.hp=st.hp
 | [],st,nP,a,w,h,hw,ha=>by
  simp only[m6,axU]at h;subst h;exact⟨hw,ha,rfl,rfl⟩
 | (d,v)::r,st,nP,a,w,h,hw,ha=>by
  unfold m6 at h;split at h
  .rename_i hc;rw[ai]at hc;have xS:=ha.put (d:=some d) (v:=v) (u:=v.val ρ) (wh hc.1) rfl st rfl;have e:=ft st (some d) v;obtain⟨h1,h2,h3,h4⟩:=xh h (hw.put hc.2) (by rw[e.2.2.2.1];exact xS);exact⟨h1,h2,h3.trans e.2.1,h4.trans e.1⟩
  .cases h
theorem PR{ρ:Env}{a:Act}{w:World}{fr:List (Nat×SV)}{nt:NT}(ha:HA fr nt ρ a){o:Oper}{l:Nat}{az:List SV}(h:US (look fr) o=some (l,az)){r:Loop}(hb:w.heap[ρ.bv.getD l 0]? =some (.loop r))
  (hs:az.length=r.params.size):
  (execOp a.eval o).run P w= .ok (.round (ρ.bv.getD l 0) r.fn ((r.params.zip (SV.bF ρ az).toArray).foldl (λtmps (t,a)=>tmps.setIfInBounds t a) r.tmps) r.assign r.body) w/\∀c,o.op≠ .defer c:=by
 unfold US at h;split at h
 .rename_i fop args argTypes DK;split at h
  .rename_i l' ZO h1 h2;cases h;have e1:=eW ha.eval h1;have e2:=iC ha.eval _ _ h2;have e3:Array.map a.eval args=(SV.bF ρ az).toArray:=ayw (by rw[Array.toList_map,e2]);refine⟨?_,λc hc=>by rw[DK]at hc;cases hc⟩;have hlen: ∀l:List SV,(SV.bF ρ l).length=l.length:=by
    intro l;induction l with
    | nil=>rfl
    | cons x r ih=>simp[SV.bF,ih]
   have hy:=run_yield (P:=P) (args:=(SV.bF ρ az).toArray) hb (by simp[hlen,hs]);simp only[execOp,DK,resolve,e1,SV.val,Deferred.ofValue,ax9,ayj,ax0,invoke,e3,Array.empty_append];exact hy
  .cases h
 .cases h
theorem Lh{ρ:Env}(ps:Array Tmp)(az:List SV)(t:Array Value):
  (ps.toList.zip az).foldl (λa x=>a.put (some x.1) (x.2.val ρ)) ({tmps:=t,defers:=[]}:Act)=
   {tmps:=(ps.zip (SV.bF ρ az).toArray).foldl (λtmps (t,a)=>tmps.setIfInBounds t a) t,defers:=[]}:=by
 rw[<-Array.foldl_toList,Array.toList_zip];generalize ps.toList=l
 induction l generalizing az t with
 | nil=>rfl
 | cons d l ih=>
  cases az with
  | nil=>rfl
  | cons v az=>
   simp only[List.zip_cons_cons,List.foldl_cons,SV.bF];exact ih az _
theorem GY(hT:bD P C.T=true)(CL:qu P C.FT)(EL:im P C){n:Nat}(yU: ∀m,m<n->sD P C al Fs w0 m)(P4: ∀m,m<n->uM P C al Fs w0 m):uM P C al Fs w0 n:=by
 intro ro all r k st ρ L a w hv hw ha iL;cases n with
 | zero=>exact hv.elim
 | succ n=>
  have hn:n<n+1:=Nat.lt_succ_self n;have up: ∀{e:Exit} {a:Act} {w:World} {bG:Env} {L':Nat->LC},Env.Le ρ bG->(∀j,j<nl k->L' j=L j)->QK P C al Fs w0 n k bG L' e a w->QK P C al Fs w0 (n+1) k ρ L e a w:=λh1 h2 hq=>hq.mono (ayC n) h1 h2
  cases r with
  | nil=>
   simp only[run]at hv;exact QK.here hn rfl hv hw ha
  | cons o r=>
   simp only[run]at hv;split at hv
   case isFalse=>exact hv.elim
   rename_i zN;have hd:=wh zN;have mN:=hd;have next: ∀{m:Nat} (ei:St) (v:SV) (u:Value) (bG:Env) (L':Nat->LC) (w':World),m<=n->Env.Le ρ bG->(∀j,j<nl k->L' j=L j)->ei.fr=st.fr->ei.nt=st.nt->HW Fs w0 ei bG w'->v.sc ei.aY=true->u=v.val bG->
     VC P al (run C m (.ops all r::k) (ei.put o.dst v)) bG L'->wpListIn (FW ro) 0 P all (QK P C al Fs w0 (n+1) k ρ L) r (a.put o.dst u) w':=by
    intro m ei v u bG L' w' hm h1 h2 YM P3 h3 h4 h5 h6;have gp:=Env.Le.fP hw.lens h1;have xS:=(ha.more hw.m7 hw.oq gp).put (d:=o.dst) (v:=v) (u:=u) hd h5 ei YM;have:=P4 m (by omega) ro all r k _ bG L' (a.put o.dst u) w' h6 (h3.put h4) (by rw[(ft ei o.dst v).2.2.2.1,P3];exact xS) (iL.le h1);exact gU (λe a w hq=>hq.mono (by omega) h1 h2) this
   have CH: ∀{m:Nat} (v:SV) (u:Value),m<=n->v.sc st.aY=true->u=v.val ρ->VC P al (run C m (.ops all r::k) (st.put o.dst v)) ρ L->wpListIn (FW ro) 0 P all (QK P C al Fs w0 (n+1) k ρ L) r (a.put o.dst u) w:=
    λv u hm h1 h2 h3=>next st v u ρ L w hm (Env.Le.refl _) (λ_ _=>rfl) rfl rfl hw h1 h2 h3
   unfold wpListIn;split at hv
   .exact hv.elim
   ·
    rename_i hg;have ov:=mB ha hw.kn hg;simp only[pH,BE.den]at ov;rw[if_neg (by rw[ov];simp)];exact⟨λ_ _=>trivial,CH .undef undef (Nat.le_refl _) rfl rfl hv⟩
   ·
    rename_i c fO hg;have ov:=mB ha hw.kn hg;simp only[pH]at ov;split at hv
    case isFalse=>exact hv.elim
    rename_i nY;have fork:VC P al (.fork c (run C n (.ops all ({o with guard:=none}::r)::k) (st.K6 c)) (run C n (.ops all r::k) ((st.tP c).put o.dst .undef))) ρ L->
      (if Region.wanted o (yielded all a.tmps)=true then o.wpIn (FW ro) 0 P a w (wpListIn (FW ro) 0 P all (QK P C al Fs w0 (n+1) k ρ L) r) (QK P C al Fs w0 (n+1) k ρ L)
       else(∀f,o.about P w a.eval=some f->(FW ro).fn f)/\wpListIn (FW ro) 0 P all (QK P C al Fs w0 (n+1) k ρ L) r (a.put o.dst undef) w):=by
     intro hf;simp only[VC,bf]at hf;rw[ov];cases hd:c.den ρ with
     | true=>
      rw[if_pos rfl];have z5:HW Fs w0 (st.K6 c) ρ w:=by
       have:=hw.know ((BE.bY ρ c).1 hd) nY;refine⟨this.lens,axS.2 λx hx=>?_,this.iu,this.qF,this.kn,this.own,this.same,this.oq⟩;obtain⟨y,hy,rfl⟩:=ayg.1 hx;exact SV.adE (axS.1 hw.m7 y hy)
      have h1:=P4 n hn ro all ({o with guard:=none}::r) k (st.K6 c) ρ L a w (hf.1 ((BE.bY ρ c).1 hd)) z5 (HA.K6 ha hd) iL;unfold wpListIn at h1;rw[if_pos (by simp[Region.wanted])]at h1;exact Dm (Oper.Bh (λa w h=>gU (λe a w hq=>up (Env.Le.refl _) (λ_ _=>rfl) hq) h) (λe a w hq=>up (Env.Le.refl _) (λ_ _=>rfl) hq) h1)
     | false=>
      rw[if_neg (by simp)];have GQ:HW Fs w0 (st.tP c) ρ w:=by
       have:=hw.know (b:=kp c) (by rw[<-BE.bY,dY,hd];rfl) (FR nY);refine⟨this.lens,axS.2 λx hx=>?_,this.iu,this.qF,this.kn,this.own,this.same,this.oq⟩;obtain⟨y,hy,rfl⟩:=ayg.1 hx;exact SV.Yy (axS.1 hw.m7 y hy)
      have ha2:=(HA.tP ha hd).put (d:=o.dst) (v:= .undef) (u:=undef) mN rfl (st.tP c) rfl;have:=P4 n hn ro all r k _ ρ L (a.put o.dst undef) w (hf.2 λh=>by rw[<-BE.bY,hd]at h;cases h) (GQ.put rfl) (by rw[(ft (st.tP c) o.dst .undef).2.2.2.1];exact ha2) iL;exact⟨λ_ _=>trivial,gU (λe a w hq=>hq.mono (by omega) (Env.Le.refl _) λ_ _=>rfl) this⟩
    split at hv
    .rename_i res GM;obtain⟨GK,NU⟩:=nG GM;split at hv
     .rename_i Wb;obtain⟨cA,hv⟩:=jW hw.kn hv;simp only[pH]at cA;rw[ov];have kS:=NU;simp only[jf.sc,ai,Wb,Bl.grow]at kS;cases hd:c.den ρ with
      | true=>
       rw[if_pos rfl];obtain⟨S,hS⟩:=hw.own;have hD:=sB (P:=P) hT (Env.ok ρ) (ha.xT hw.kn (g:=some c) hd) GK (Bm S hS _) (cA hd) hw.lens.b;unfold Did at hD;rw[Wb]at hD;refine o7 (xU GK) (.inl hD) ?_;refine CH (.opt c res.val) _ (Nat.le_refl _) ?_ ?_ hv
       .simp only[SV.sc,ai];exact⟨nY,kS.1.1⟩
       .simp only[SV.val,hd,if_true]
      | false=>
       rw[if_neg (by simp)];refine⟨λ_ _=>trivial,CH (.opt c res.val) undef (Nat.le_refl _) ?_ ?_ hv⟩
       .simp only[SV.sc,ai];exact⟨nY,kS.1.1⟩
       .simp [SV.val,hd]
     .exact fork hv
    .exact fork hv
   ·
    rename_i hg;have ov:=mB ha hw.kn hg;simp only[pH]at ov;rw[if_pos ov];split at hv
    .rename_i res GM;obtain⟨GK,NU⟩:=nG GM;obtain⟨cA,hv⟩:=jW hw.kn hv;have cA:=cA rfl;obtain⟨S,hS⟩:=hw.own;have hD:=sB (P:=P) hT (Env.ok ρ) (ha.xT hw.kn (g:=none) rfl) GK (Bm S hS _) cA hw.lens.b;have tI:VC P al (aiD res.jE (run C n (.ops all r::k) (({eg st res.jE with known:=more res.vcs st.known}:St).put o.dst res.val))) ρ L:=by
      cases he:res.jE<;>rw[he]at hv<;>exact hv
     obtain⟨u,w',bG,jT,hle,hw',hu,ao3,Ja⟩:=U3 hw hS hD NU cA tI;refine o7 (xU GK) jT ?_;obtain⟨e1,e2,e3,e4,e5⟩:=Dk st res.jE;exact next {eg st res.jE with known:=more res.vcs st.known} res.val u bG L w' (Nat.le_refl _) hle (λ_ _=>rfl) e1 e2 hw' (by rw[show({eg st res.jE with known:=more res.vcs st.known}:St).aY=(eg st res.jE).aY from rfl,e5];exact ao3) hu Ja
    .split at hv
     .rename_i f az sE;split at hv
      .exact hv.elim
      .rename_i fd Bp;have EJ:=List.mem_of_find?_eq_some Bp;have Nz:=List.find?_some Bp;simp only[beq_iff_eq]at Nz;obtain⟨hf,GU⟩:=CL _ EJ;simp only at hf GU;rw[Nz]at hf;split at hv
       .split at hv
        case h_2=>exact hv.elim
        rename_i ca hca;split at hv
        case isFalse=>exact hv.elim
        rename_i kS;simp only[ai,decide_eq_true_eq]at kS;obtain⟨⟨⟨lZ,zO⟩,lT⟩,F0⟩:=kS;have cC: ∀i∈ca.use az st.hp,i<st.hp.length:=λi hi=>by simpa[ayb] using axS.1 lT i hi
        simp only[VC]at hv;obtain⟨post,CI,Va⟩:=hv;have eX:=aU.vX (acc:=[]) (use:=ca.use az st.hp) (by simpa using hw.own) F0 (by simpa using cC);have Lg:((ca.use az st.hp).map λi=>st.hp.getD i .emp).map (Ck.den ρ)=(ca.use az st.hp).map (λi=>(st.hp.map (Ck.den ρ)).getD i HP.emp):=by
         rw[List.map_map];refine List.map_congr_left λi hi=>?_
         have:=cC i hi;simp[this]
        rw[List.nil_append,<-Lg]at eX;obtain⟨v,hs,w',hR,hp,CE,CD⟩:=CI w _ eX;obtain⟨jT,iT⟩:=Yz (P:=P) (w:=w) ha sE;have hx:=Va v hs hp;rw[mj]at hx;obtain⟨e2,si,rfl,rfl,Ja⟩:=hx;have hle:=Env.jo ρ e2;have gp:=Env.Le.fP hw.lens hle;refine o7 iT (.inl (jT.trans hR)) ?_;refine next {st with hp:=iq st.hp (ca.use az st.hp) (ca.new st.aY ((ca.use az st.hp).map λi=>st.hp.getD i .emp)),aY:=st.aY.add ca.inc} (tD ca az st.hp st.aY) _ (ρ.ext e2) L w' (Nat.le_refl _) hle (λ_ _=>rfl) rfl rfl ?_ lZ rfl Ja;refine⟨hw.lens.ext si,dz (cI.mn _ _) hw.m7,?_,ik (cI.mn _ _) hw.qF,λb hb=>?_,?_,hw.same.trans CD,ey (cI.mn _ _) hw.oq⟩
        .exact nW _ _ rfl _ _ _ (ky (cI.mn _ _) hw.iu) zO
        .exact(BE.jV gp (axS.1 hw.qF b hb)).1 (hw.kn b hb)
        .have h1:=aU.m6 (use:=ca.use az st.hp) CE (λi hi=>by rw[nE];simpa using cC i hi) λ_ _=> .inr trivial
         rw[<-lh _ _ _ F0,mZ gp hw.iu]at h1;simp only[iq];rw[nT];exact h1
       .rename_i c hb;obtain⟨jT,iT⟩:=U9 (P:=P) (w:=w) ha sE hf GU hb;refine⟨λ_ _=>trivial,?_⟩;rw[Oper.semAt_eq _ _ _ iT,jT,Oper.uponIn_enter];refine⟨λh=>(by cases h),?_⟩;split at hv
        .rename_i r0 ao4;split at hv
         case isFalse=>exact hv.elim
         rename_i kS;simp only[ai,decide_eq_true_eq]at kS;obtain⟨⟨⟨lZ,zO⟩,lT⟩,F0⟩:=kS;obtain⟨cA,hv⟩:=jW hw.kn hv;have cC: ∀i∈r0.use,i<st.hp.length:=λi hi=>by simpa[ayb] using axS.1 lT i hi
         have CI:=EL f az st.hp r0 ρ ao4 (cA rfl);have eX:=aU.vX (acc:=[]) (use:=r0.use) (by simpa using hw.own) F0 (by simpa using cC);have Lg:(r0.use.map λi=>st.hp.getD i .emp).map (Ck.den ρ)=r0.use.map (λi=>(st.hp.map (Ck.den ρ)).getD i HP.emp):=by
          rw[List.map_map];refine List.map_congr_left λi hi=>?_
          have:=cC i hi;simp[this]
         rw[List.nil_append,<-Lg]at eX;refine Ng ?_;have hc:=CI w _ eX;intro cs;obtain⟨e,w',Jl,hR,Vf,hfn,Li⟩:=hc cs;refine⟨e,w',Jl,?_,Vf,hfn,Li⟩;obtain⟨x,hs,rfl,⟨hx,rfl⟩,CE,CD⟩:=hR;subst hx;refine next {st with hp:=iq st.hp r0.use r0.new} r0.val _ ρ L w' (Nat.le_refl _) (Env.Le.refl _) (λ_ _=>rfl) rfl rfl ⟨hw.lens,hw.m7,?_,hw.qF,hw.kn,?_,hw.same.trans CD,hw.oq⟩ lZ rfl hv
         .exact nW _ _ rfl _ _ _ hw.iu zO
         .have h1:=aU.m6 (use:=r0.use) CE (λi hi=>by rw[nE];simpa using cC i hi) λ_ _=> .inr trivial
          rw[<-lh _ _ _ F0]at h1;simp only[iq];rw[nT];exact h1
        split at hv
        .rename_i ca hca;split at hv
         case isFalse=>exact hv.elim
         rename_i kS;simp only[ai,decide_eq_true_eq]at kS;obtain⟨⟨⟨lZ,zO⟩,lT⟩,F0⟩:=kS;have cC: ∀i∈ca.use az st.hp,i<st.hp.length:=λi hi=>by simpa[ayb] using axS.1 lT i hi
         simp only[VC]at hv;obtain⟨post,CI,Va⟩:=hv;have eX:=aU.vX (acc:=[]) (use:=ca.use az st.hp) (by simpa using hw.own) F0 (by simpa using cC);have Lg:((ca.use az st.hp).map λi=>st.hp.getD i .emp).map (Ck.den ρ)=(ca.use az st.hp).map (λi=>(st.hp.map (Ck.den ρ)).getD i HP.emp):=by
          rw[List.map_map];refine List.map_congr_left λi hi=>?_
          have:=cC i hi;simp[this]
         rw[List.nil_append,<-Lg]at eX;refine Ng ?_;have hc:=CI w _ eX;intro cs;obtain⟨e,w',Jl,hR,Vf,hfn,Li⟩:=hc cs;refine⟨e,w',Jl,?_,Vf,hfn,Li⟩;obtain⟨v,hs,rfl,hp,CE,CD⟩:=hR;have hx:=Va v hs hp;rw[mj]at hx;obtain⟨e2,si,rfl,rfl,Ja⟩:=hx;have hle:=Env.jo ρ e2;have gp:=Env.Le.fP hw.lens hle;refine next {st with hp:=iq st.hp (ca.use az st.hp) (ca.new st.aY ((ca.use az st.hp).map λi=>st.hp.getD i .emp)),aY:=st.aY.add ca.inc} (tD ca az st.hp st.aY) _ (ρ.ext e2) L w' (Nat.le_refl _) hle (λ_ _=>rfl) rfl rfl ?_ lZ rfl Ja;refine⟨hw.lens.ext si,dz (cI.mn _ _) hw.m7,?_,ik (cI.mn _ _) hw.qF,λb hb=>?_,?_,hw.same.trans CD,ey (cI.mn _ _) hw.oq⟩
         .exact nW _ _ rfl _ _ _ (ky (cI.mn _ _) hw.iu) zO
         .exact(BE.jV gp (axS.1 hw.qF b hb)).1 (hw.kn b hb)
         .have h1:=aU.m6 (use:=ca.use az st.hp) CE (λi hi=>by rw[nE];simpa using cC i hi) λ_ _=> .inr trivial
          rw[<-lh _ _ _ F0,mZ gp hw.iu]at h1;simp only[iq];rw[nT];exact h1
        .split at hv
         case isFalse=>exact hv.elim
         rename_i kS;refine U_ (I5 hT (yU n hn) hf hb hv kS hw (λl r fn nt fr ps x y fd hm=>iL.rf l r fn nt fr ps x y fd (by simpa using hm)) ?_);intro v w' m ei bG L' hm h1 h2 h3 h4 h5 h6;have fO:=iZ.le hw.lens h3.lens h1;have LD:HW Fs w0 (iE ei st.fn st.nt st.fr) bG w':=⟨h3.lens,dz fO hw.m7,h3.iu,h3.qF,h3.kn,h3.own,h3.same,ey fO hw.oq⟩;exact next (iE ei st.fn st.nt st.fr) v _ bG L' w' (Nat.le_of_lt hm) h1 h2 rfl rfl LD h4 rfl h6
     .split at hv
      case h_2=>exact hv.elim
      rename_i l az hyl;split at hv
      case h_2=>exact hv.elim
      rename_i rr fn nt fr ps x y i' r' s' j' Bp JO;split at hv
      case isFalse=>exact hv.elim
      rename_i hc;rw[ai,decide_eq_true_eq,beq_iff_eq]at hc;obtain⟨rfl,hlen⟩:=hc;split at hv
      case h_2=>exact hv.elim
      rename_i nP nq;obtain⟨fd,EJ⟩:=xg Bp;obtain⟨yV,c0,k1,k2,k3,k4,k5,k6,k7,k8⟩:=iL.rf l rr fn nt fr ps x y fd EJ;have aiH:=Env.Le.fP k1 k2;have hlr:yV.lr.getD rr j6=ρ.lr.getD rr j6:=aiH.r _ k4;rw[hlr]at k5 k6 k7 k8;have qO:=nU hw JO;obtain⟨jT,iT⟩:=PR (P:=P) ha hyl qO (by rw[hlen,<-k5]);refine⟨λ_ _=>trivial,?_⟩;rw[Oper.semAt_eq _ _ _ iT,jT,Oper.uponIn_round];refine⟨λh=>(by cases h),?_⟩;refine roundIn_of_wpIn trivial ?_;simp only[k5,k6,k7];have z5:HW Fs w0 (iE st fn ⟨nt.n,[]⟩ fr) ρ w:=⟨hw.lens,dz (iZ.le k1 hw.lens k2) k3,hw.iu,hw.qF,hw.kn,hw.own,hw.same,rfl⟩;have JP:HA fr ⟨nt.n,[]⟩ ρ {tmps:=(ρ.lr.getD rr j6).tmps,defers:=[]}:=k8.more k3 rfl aiH;obtain⟨GQ,ha2,aq3,_⟩:=xh nq z5 JP;rw[Lh]at ha2;have Wh:FW ro=FW ro:=rfl;have hlb:l<st.aY.b:=by
       have:=axS.1 hw.iu _ (ayh (vj JO));simp only[Ck.sc,ai,ayb]at this;exact this.1
      have GV:EH ρ (.begin l:: .code y:: .round l st.fn st.nt st.fr o.dst:: .ops all r::k) (some (ρ.bv.getD l 0)):=
       ⟨λl r fn nt fr ps x y fd hm=>iL.rf l r fn nt fr ps x y fd (by simpa using hm),⟨ρ,st.aY,hw.lens,Env.Le.refl _,hlb,rfl⟩⟩
      refine wpIn_mono (yU n hn (some (ρ.bv.getD l 0)) x _ nP ρ L _ w hv GQ ha2 GV) ?_;intro e a1 w1 hq;obtain⟨k',kX,m,hm,GN,LG,L2,g1,g2,g3,g4,g5⟩:=hq;cases e with
      | normal=>
       cases kX;cases m with
       | zero=>exact g5.elim
       | succ m=>
        simp only[run]at g5;split at g5
        case h_2=>exact g5.elim
        rename_i i2 r2 j2 ZP;have ZQ:=nU g3 ZP;have hbv:LG.bv.getD l 0=ρ.bv.getD l 0:=((Env.Le.fP hw.lens g1).b l hlb).symm;rw[hbv]at ZQ;refine⟨_,run_beginRound ZQ rfl,?_⟩;have LD:=EK g3 ZP .busy j2;rw[hbv]at LD;cases m with
        | zero=>exact g5.elim
        | succ m=>
        have aiI:EH LG (.round l st.fn st.nt st.fr o.dst:: .ops all r::k) (some (ρ.bv.getD l 0)):=
         ⟨λl r fn nt fr ps x y fd hm=>(iL.le g1).rf l r fn nt fr ps x y fd (by simpa using hm),⟨ρ,st.aY,hw.lens,g1,hlb,rfl⟩⟩
        refine wpIn_mono (yU (m+1) (by omega) (some (ρ.bv.getD l 0)) y _ _ LG L2 a1 _ g5 LD g4 aiI) ?_;have fin: ∀(j:Jump) (a3:Act) (w3:World),At P C al Fs w0 (m+1) (.ot l j st.fn st.nt st.fr o.dst:: .ops all r::k) LG L2 a3 w3->
          ∃v w',(Instr.endRound (ρ.bv.getD l 0) j.code).run P w3= .ok v w'/\wpListIn (FW ro) 0 P all (QK P C al Fs w0 (n+1) k ρ L) r (a.put o.dst v) w':=by
         intro j a3 w3 ⟨m3,hm3,st3,ρ3,L3,q1,q2,q3,q4,q5⟩;cases m3 with
         | zero=>exact q5.elim
         | succ m3=>
          simp only[run]at q5;split at q5
          case h_2=>exact q5.elim
          rename_i i3 r3 s3 j3 ZR;split at q5
          case isFalse=>exact q5.elim
          rename_i avU;have PQ:=g1.trans q1;have ZS:=nU q3 ZR;have aiK:ρ3.bv.getD l 0=ρ.bv.getD l 0:=((Env.Le.fP hw.lens PQ).b l hlb).symm;rw[aiK]at ZS;refine⟨_,_,run_endRound j.code ZS,?_⟩;have Q6:=EK q3 ZR (if j= .none then .ready else .done) j;rw[aiK]at Q6;have fO:=iZ.le hw.lens q3.lens PQ;have hw5:HW Fs w0 (iE {st3 with hp:=st3.hp.set i3 (.mY l r3 (if j= .none then .ready else .done) j)} st.fn st.nt st.fr) ρ3 _:=⟨Q6.lens,dz fO hw.m7,Q6.iu,Q6.qF,Q6.kn,Q6.own,Q6.same,ey fO hw.oq⟩;have:=next (iE {st3 with hp:=st3.hp.set i3 (.mY l r3 (if j= .none then .ready else .done) j)} st.fn st.nt st.fr) (.bool (.lit (decide (j= .none)))) (.bool j.code.isNone) ρ3 L3 _ (by omega) PQ
           (λj hj=>(q2 j hj).trans (g2 j hj)) rfl rfl hw5 rfl (by cases j<;>rfl) q5
          cases j<;>exact this
        intro e3 a3 w3 hq3;obtain⟨k3',hk3,adG⟩:=hq3;cases e3 with
        | normal=>
         cases hk3;refine fin .none a3 w3 ?_;obtain⟨m3,hm3,st3,ρ3,L3,q1,q2,q3,q4,q5⟩:=adG;cases m3 with
         | zero=>exact q5.elim
         | succ m3=>exact⟨m3,by omega,st3,ρ3,L3,q1,q2,q3,q4,q5⟩
        | ret=>cases hk3;exact fin .ret a3 w3 adG
        | exit id=>cases hk3;exact fin (.exit id) a3 w3 adG
        | goto l=>cases hk3
        | panic l=>cases hk3
        | outgrown=>cases hk3
      | exit id=>cases kX
      | ret=>cases kX
      | goto l=>cases kX
      | panic l=>cases kX
      | outgrown=>cases kX
end
end Go.RX
