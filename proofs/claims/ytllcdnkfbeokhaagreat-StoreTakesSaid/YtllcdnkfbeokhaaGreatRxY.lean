/- Executor. -/
import Derived.Test.YtllcdnkfbeokhaaGreatRxX
import Derived.RangeFuncNested
open Array renaming ext' → aqU, getD_eq_getD_getElem? → aqK, getElem?_eq_some_iff → aqw
open Bool renaming and_eq_true → ai
open Go.Result renaming andThen_ok → aqu
open Go.Sem renaming run_bind → aqA, run_pure → aqH
open List renaming all_eq_true → aqn, getElem?_append_left → aqs, getElem?_eq_some_iff → aqo, mem_cons_of_mem → aqv, mem_cons_self → aqr, mem_map → aqV, mem_of_getElem? → aqG, mem_or_eq_of_mem_set → aqT
open Nat renaming blt_eq → aqB, le_succ → aqZ
open Option renaming map_eq_some_iff → aqq
open Option.some renaming injEq → aqp
namespace Go.RX
def iu(P:Program)(C:Ctx):Prop:= ∀f az hp r (ρ:Env),CY C f az hp=some r→(∀b∈r.vcs,b.prop ρ)→
 aq P f (SV.bD ρ az) ((r.use.map fun i=>hp.getD i .emp).map (Ck.den ρ)) fun x hs=>x=r.val.val ρ∧hs=r.new.map (Ck.den ρ)
theorem iu.none{P:Program}{C:Ctx}(h:C.pure=fun _=>Option.none):iu P C:=by
 intro f az hp r ρ hp;simp [CY,h]at hp
def aH(P:Program)(FT:List (Nat×Func)):Prop:= ∀x∈FT,P.funcs[x.1]? =some x.2∧(x.2.name== "runtime.NumGoroutine")=false
section
variable {P:Program} {C:Ctx} {al:Value→List HP→Prop} {Fs:List HP} {w0:World}
theorem nN{ρ:Env}(a b:List SV):SV.bD ρ (a++b)=SV.bD ρ a++SV.bD ρ b:=by
 induction a with
 | nil=>rfl
 | cons x r ih=>simp only [List.cons_append,SV.bD,ih]
theorem FJ{ρ:Env}: ∀(l:List SV) (i:Nat),(SV.bD ρ l)[i]? =(l[i]?).map (SV.val ρ)
 | [],i=>by simp [SV.bD]
 | x::r,0=>by simp [SV.bD]
 | x::r,i+1=>by simp only [SV.bD,List.getElem?_cons_succ];exact FJ r i
theorem BL{ρ:Env}: ∀(l:List SV) (n s:Nat) (v:SV),look (fc n l) s=some v→n≤s∧l[s - n]? =some v
 | [],n,s,v,h=>by cases h
 | x::r,n,s,v,h=>by
  unfold fc look at h;split at h
  ·rename_i hs;rw [beq_iff_eq]at hs;subst hs;cases h;exact⟨Nat.le_refl _,by simp⟩
  ·rename_i hs;obtain⟨h1,h2⟩:=BL (ρ:=ρ) r (n+1) s v h;refine⟨by omega,?_⟩;rw [show s - n=(s - (n+1))+1 by omega,List.getElem?_cons_succ];exact h2
theorem xV{c:ct}: ∀(l:List SV) (n:Nat),SV.pN c l=true→lW c (fc n l)=true
 | [],n,_=>rfl
 | x::r,n,h=>by
  simp only [SV.pN,ai]at h;simp only [fc,lW,List.all_cons,ai];exact⟨h.1,xV r (n+1) h.2⟩
theorem y6{ρ:Env}(az:List SV)(nt:Nat):HA (fc 0 az) ⟨nt,[]⟩ ρ {tmps:=(SV.bD ρ az).toArray++Array.replicate (nt - (SV.bD ρ az).toArray.size) undef,defers:=[]}:=by
 refine⟨rfl,by simp;omega,fun s v hs=>?_⟩;obtain⟨_,h2⟩:=BL (ρ:=ρ) az 0 s v hs;rw [Nat.sub_zero]at h2;have h3:(SV.bD ρ az)[s]? =some (v.val ρ):=by rw [FJ,h2];rfl
 rw [aqK,Array.getElem?_append_left (by simpa using (aqo.1 h3).1)];simp [h3]
theorem Qf{ρ:Env}{a:Act}{w:World}{fr:List (Nat×SV)}{nt:NT}(ha:HA fr nt ρ a){o:Oper}{f:Nat}{az:List SV}(h:zV (look fr) o=some (f,az))
  {fd:Func} (hf:P.funcs[f]? =some fd) (hn:(fd.name== "runtime.NumGoroutine")=false) {c:Code} (hb:fd.body=some c):
  (execOp a.eval o).run P w= .ok (.enter f (SV.bD ρ az).toArray) w∧∀c,o.op≠ .defer c:=by
 unfold zV at h;split at h
 ·rename_i fop args argTypes Bl;split at h
  ·rename_i f' iR Uw h1 h2;cases h;have e1:=ep ha.eval h1;have e2:=gD ha.eval _ _ h2;have e3:Array.map a.eval args=(SV.bD ρ Uw).toArray:=aqU (by rw [Array.toList_map,e2]);refine⟨?_,fun c hc=>by rw [Bl]at hc;cases hc⟩;simp only [execOp,Bl,resolve,e1,SV.val,Deferred.ofValue,aqA,aqH,aqu,invoke,callFunc,e3];have Rd: ¬fd.name= "runtime.NumGoroutine" :=by simpa using hn
   simp [hf,Rd,hb,nN]
  ·rename_i f' first Uw h1 h2
   cases h;have e1:=ep ha.eval h1;have e2:=gD ha.eval _ _ h2;have e3:Array.map a.eval args=(SV.bD ρ Uw).toArray:=aqU (by rw [Array.toList_map,e2]);refine⟨?_,fun c hc=>by rw [Bl]at hc;cases hc⟩;simp only [execOp,Bl,resolve,e1,SV.val,Deferred.ofValue,aqA,aqH,aqu,invoke,callFunc,e3];have Rd: ¬fd.name= "runtime.NumGoroutine" :=by simpa using hn
   simp [hf,Rd,hb,nN]
  ·cases h
 ·cases h
theorem Tn{ρ:Env}{a:Act}{w:World}{fr:List (Nat×SV)}{nt:NT}(ha:HA fr nt ρ a){o:Oper}{f:Nat}{az:List SV}(h:zV (look fr) o=some (f,az)):
  (execOp a.eval o).run P w=(callFunc f (SV.bD ρ az).toArray).run P w∧∀c,o.op≠ .defer c:=by
 unfold zV at h;split at h
 ·rename_i fop args argTypes Bl;split at h
  ·rename_i f' iR Uw h1 h2;cases h;have e1:=ep ha.eval h1;have e2:=gD ha.eval _ _ h2;have e3:Array.map a.eval args=(SV.bD ρ Uw).toArray:=aqU (by rw [Array.toList_map,e2]);refine⟨?_,fun c hc=>by rw [Bl]at hc;cases hc⟩;simp only [execOp,Bl,resolve,e1,SV.val,Deferred.ofValue,aqA,aqH,aqu,invoke,e3,nN];simp
  ·rename_i f' first Uw h1 h2
   cases h;have e1:=ep ha.eval h1;have e2:=gD ha.eval _ _ h2;have e3:Array.map a.eval args=(SV.bD ρ Uw).toArray:=aqU (by rw [Array.toList_map,e2]);refine⟨?_,fun c hc=>by rw [Bl]at hc;cases hc⟩;simp only [execOp,Bl,resolve,e1,SV.val,Deferred.ofValue,aqA,aqH,aqu,invoke,e3,nN];simp
  ·cases h
 ·cases h
theorem Jk{ro:Option Nat}{n:Nat}{f:FuncId}{args:Array Value}{w:World}{R:Ending→World→Prop}(h:Calls P f args w R):CallsIn (FW ro) n P f args w R:=by
 have:CallsIn Fence.wide n P f args w R:=callsIn_wide.2 h;exact this
theorem Qg{ro:Option Nat}{n:Nat}{f:FuncId}{args:Array Value}{w:World}{R:Ending→World→Prop}(h:CallsIn (FW none) n P f args w R):CallsIn (FW ro) n P f args w R:=h
theorem Aj{fn:Func}{tmps:Array Value}{R:Ending→World→Prop}{u:FrameMode}(hu:u≠ .run){r:List Deferred}{i:Nat}: ∀{l:List Nat} {hs:List HP} {w:World},hs[i]? =some (lE l)→bG (hs++Fs) w→
  (∀w',bG (hs.set i HP.emp++Fs) w'→ic w w'→LeavesInM (FW none) 0 P fn tmps R r u w')→LeavesInM (FW none) 0 P fn tmps R (l.map (fun b=>{target:= .collected b,args:= #[]})++r) u w
 | [],hs,w,hi,ho,hk=>by
  obtain⟨S,hS⟩:=ho;refine hk w ?_ (ic.refl w);have dK:=hS.at_ i _ (by rw [aqs (aqo.1 hi).1];exact hi);exact bG.step hS i _ _ hi rfl (fun _=>False) (Nat.le_refl _) (fun _ _ _=>rfl) (fun k hk=>hk) (fun k hk=>hk.elim)
 | b::l,hs,w,hi,ho,hk=>by
  obtain⟨S,hS⟩:=ho;have cq:=(aqo.1 hi).1;have dK:=hS.at_ i _ (by rw [aqs cq];exact hi);obtain⟨⟨p1,p2,p3⟩,p4⟩:=dK;have lF:w.heap[b]? =some (.deferred (some [])):=p3 b aqr;have Yv:=(List.nodup_cons.1 p2);refine⟨hu,.inl ⟨b,w.putObj b (.deferred none),rfl,run_takeDeferred lF,?_⟩⟩;have cY:bG (hs.set i (lE l)++Fs) (w.putObj b (.deferred none)):=by
   refine bG.step hS i _ _ hi rfl (fun k=>k∈l) (by simp [World.putObj]) (fun k hk hn=>?_) ⟨fun k=>Iff.rfl,Yv.2,fun k hk=>?_⟩ (fun k hk=> .inl ((p1 k).2 (aqv _ hk)))
   ·exact World.putObj_heap_other (fun e=>hn ((p1 k).2 (by rw [e];exact aqr)))
   ·rw [World.putObj_heap_other (fun e=>Yv.1 (by rw [←e];exact hk))];exact p3 k (aqv _ hk)
  refine Aj hu (l:=l) (hs:=hs.set i (lE l)) (by rw [List.getElem?_set_self cq]) cY fun w' FV sU=>?_
  rw [List.set_set]at FV;exact hk w' FV ((show ic w (w.putObj b (.deferred none))from⟨rfl,rfl,rfl,by simp⟩).trans sU)
theorem q_{fn:Func}{tmps:Array Value}{R:Ending→World→Prop}{u:FrameMode}(hu:u≠ .run){ρ:Env}: ∀{ds:List MK} {hp mr:List Ck} {w:World},leave hp ds=some mr→bG (hp.map (Ck.den ρ)++Fs) w→
  (∀w',bG (mr.map (Ck.den ρ)++Fs) w'→ic w w'→LeavesInM (FW none) 0 P fn tmps R [] u w')→LeavesInM (FW none) 0 P fn tmps R (marks ρ ds) u w
 | [],hp,mr,w,h,ho,hk=>by
  simp only [leave,aqp]at h;subst h;exact hk w ho (ic.refl w)
 | .many d::ds,hp,mr,w,h,ho,hk=>by
  unfold leave at h;split at h
  ·rename_i i hi;rw [List.findIdx?_eq_some_iff_getElem]at hi;obtain⟨cq,hd,_⟩:=hi;have wi:hp[i]? =some (.tY d):=by
    cases hc:hp[i]with
    | tY b=>
     rw [hc]at hd;simp only [Ck.v_,beq_iff_eq]at hd;subst hd;rw [List.getElem?_eq_getElem cq,hc]
    | _=>rw [hc]at hd;simp [Ck.v_]at hd
   have JY:(hp.map (Ck.den ρ))[i]? =some (lE (qk (ρ.bv.getD d 0))):=by rw [List.getElem?_map,wi];rfl
   rw [show marks ρ (.many d::ds)=(qk (ρ.bv.getD d 0)).map (fun b=>{target:= .collected b,args:= #[]})++marks ρ ds by simp only [marks,List.flatMap_cons,MK.blocks,List.map_append]];refine Aj hu JY ho fun w' FV sU=>?_
   have J3:bG ((hp.set i .emp).map (Ck.den ρ)++Fs) w':=by rw [List.map_set];exact FV
   exact q_ hu h J3 fun w2 h2 ail=>hk w2 h2 (sU.trans ail)
  ·cases h
 | .one d::ds,hp,mr,w,h,ho,hk=>by
  unfold leave at h;split at h
  ·rename_i i hi;rw [List.findIdx?_eq_some_iff_getElem]at hi;obtain⟨cq,hd,_⟩:=hi;have wi:hp[i]? =some (.JV d):=by
    cases hc:hp[i]with
    | JV b=>
     rw [hc]at hd;simp only [Ck.BJ,beq_iff_eq]at hd;subst hd;rw [List.getElem?_eq_getElem cq,hc]
    | _=>rw [hc]at hd;simp [Ck.BJ]at hd
   obtain⟨S,hS⟩:=ho;have JY:(hp.map (Ck.den ρ))[i]? =some (yu (ρ.bv.getD d 0)):=by rw [List.getElem?_map,wi];rfl
   have dK:=hS.at_ i _ (by rw [aqs (by simpa using cq)];exact JY);have lF:w.heap[ρ.bv.getD d 0]? =some (.deferred (some [])):=dK.1.2;have QN:ρ.bv.getD d 0<w.heap.size:=(aqw.1 lF).1;refine⟨hu,.inl ⟨ρ.bv.getD d 0,w.putObj (ρ.bv.getD d 0) (.deferred none),rfl,run_takeDeferred lF,?_⟩⟩;have cY:bG ((hp.set i .emp).map (Ck.den ρ)++Fs) (w.putObj (ρ.bv.getD d 0) (.deferred none)):=by
    rw [List.map_set];refine bG.step hS i _ _ JY rfl (fun _=>False) (by simp [World.putObj]) (fun k hk hn=>?_) (fun k hk=>hk) (fun k hk=>hk.elim);exact World.putObj_heap_other (fun e=>hn ((dK.1.1 k).2 e))
   refine q_ hu h cY fun w' FV sU=>hk w' FV ((show ic w (w.putObj (ρ.bv.getD d 0) (.deferred none))from⟨rfl,rfl,rfl,by simp⟩).trans sU)
  ·cases h
theorem Ak{c:ct}: ∀{ds:List MK} {hp mr:List Ck},leave hp ds=some mr→hp.all (Ck.sc c)=true→mr.all (Ck.sc c)=true
 | [],hp,mr,h,hs=>by simp only [leave,aqp]at h;subst h;exact hs
 | .many d::ds,hp,mr,h,hs=>by
  unfold leave at h;split at h
  ·refine Ak h (aqn.2 fun x hx=>?_);rcases aqT hx with hx | rfl
   ·exact aqn.1 hs x hx
   ·rfl
  ·cases h
 | .one d::ds,hp,mr,h,hs=>by
  unfold leave at h;split at h
  ·refine Ak h (aqn.2 fun x hx=>?_);rcases aqT hx with hx | rfl
   ·exact aqn.1 hs x hx
   ·rfl
  ·cases h
theorem nY{fd:Func}{R:Ending→World→Prop}{st dO:St}{ρ:Env}{a:Act}{w:World}(h:nD st=some dO)(hw:HW Fs w0 st ρ w)(ha:HA st.fr st.nt ρ a)
  (hk: ∀w',HW Fs w0 dO ρ w'→∃v,(results fd a.tmps).run P w'= .ok v w'∧R (.returned v) w'):LeavesInM (FW none) 0 P fd a.tmps R a.defers .returning w:=by
 unfold nD at h;rw [aqq]at h;obtain⟨mr,hl,rfl⟩:=h;rw [ha.defers];refine q_ (by simp) hl hw.own fun w' ho sU=>?_
 obtain⟨v,h1,h2⟩:=hk w' ⟨hw.lens,hw.lx,Ak hl hw.gj,hw.ot,hw.kn,ho,hw.same.trans sU,hw.mw⟩;exact⟨v,h1,h2⟩
theorem FK(hT:bx P C.T=true){n:Nat}(wQ:qC P C al Fs w0 n){c:Code}{fd:Func}{f:Nat}(hf:P.funcs[f]? =some fd)(hb:fd.body=some c){k:List KI}{st:St}{ρ:Env}{L:Nat→LC}{w:World}{az:List SV}{fn:Nat}{nt:NT}{fr:List (Nat×SV)}{d:Option Nat}
  (hv:VC P al (run C n (.code c:: .call fn nt fr d fd::k) (gE st f ⟨fd.ntmps,[]⟩ (fc 0 az))) ρ L) (jt:SV.pN st.aW az=true) (hw:HW Fs w0 st ρ w) (hrf: ∀l r fn nt fr ps x y fd,KI.rf l r fn nt fr ps x y fd∈k→∃wR c0,hG wR c0∧Env.Le wR ρ∧lW c0 fr=true∧r<c0.r∧(wR.lr.getD r je).params=ps∧(wR.lr.getD r je).assign=x∧(wR.lr.getD r je).body=y∧HA fr ⟨nt.n,[]⟩ wR {tmps:=(wR.lr.getD r je).tmps,defers:=[]}) {R:Ending→World→Prop}
  (hR: ∀v w' m dO bF L',m<n→Env.Le ρ bF→(∀j,j<nl k→L' j=L j)→HW Fs w0 dO bF w'→v.sc dO.aW=true→qB (gE dO fn nt fr) d=true→
   VC P al (run C m k ((gE dO fn nt fr).put d v)) bF L'→R (.returned (v.val bF)) w'):
  CallsIn (FW none) 0 P f (SV.bD ρ az).toArray w R:=by
 refine callsIn_of_wp_marks hf hb trivial ?_ rfl;have U5:HW Fs w0 (gE st f ⟨fd.ntmps,[]⟩ (fc 0 az)) ρ w:=⟨hw.lens,xV az 0 jt,hw.gj,hw.ot,hw.kn,hw.own,hw.same,rfl⟩;refine wpIn_mono (wQ none c _ _ ρ L _ w hv U5 (y6 az fd.ntmps) ⟨fun l r fn nt fr ps x y fd hm=>hrf l r fn nt fr ps x y fd (by simpa using hm),rfl⟩) ?_;have key: ∀a' w',At P C al Fs w0 n (.call fn nt fr d fd::k) ρ L a' w'→LeavesInM (FW none) 0 P fd a'.tmps R a'.defers .returning w':=by
  intro a' w' ⟨m,hm,dO,bF,L',h1,h2,h3,h4,h5⟩;cases m with
  | zero=>exact h5.elim
  | succ m=>
   simp only [run]at h5;split at h5
   case h_2=>exact h5.elim
   rename_i D4 Is;have MW:D4.fr=dO.fr∧D4.nt=dO.nt∧D4.aW=dO.aW:=by
    unfold nD at Is;rw [aqq]at Is;obtain⟨mr,_,rfl⟩:=Is;exact⟨rfl,rfl,rfl⟩
   split at h5
   ·rename_i v hv;split at h5
    ·rename_i hc;simp only [ai]at hc;refine nY Is h3 h4 fun w2 Ce=>?_
     refine⟨_,pq hT Ce (nt:=dO.nt) (by rw [MW.1];exact h4) hv,hR v w2 m D4 bF L' (by omega) h1 h2 Ce hc.2 hc.1 h5⟩
    ·exact h5.elim
   ·exact h5.elim
 intro e a' w' hq;obtain⟨k',hk,dK⟩:=hq;cases e with
 | normal=>cases hk;exact key a' w' dK
 | ret=>cases hk;exact key a' w' dK
 | exit id=>cases hk
 | goto l=>cases hk
 | panic l=>cases hk
 | outgrown=>cases hk
theorem um{st:St}{d:Option Nat}(h:qB st d=true): ∀x,d=some x→x<st.nt.n:=by
 intro x hx;subst hx;simpa [qB,aqB] using h
theorem tm{hp:List Ck}{l i r:Nat}{s:RS}{j:Jump}(h:recAt hp l=some (i,r,s,j)):hp[i]? =some (.lG l r s j):=by
 unfold recAt at h;split at h
 ·rename_i q hq;split at h
  ·rename_i l' r' s' j' hg;cases h;rw [List.findIdx?_eq_some_iff_getElem]at hq;obtain⟨cq,hd,_⟩:=hq;rw [List.getElem?_eq_getElem cq,aqp]at hg;rw [hg]at hd;simp only [Ck.isRec,beq_iff_eq]at hd;subst hd;rw [List.getElem?_eq_getElem cq,hg]
  ·cases h
 ·cases h
theorem uP{l:Nat}: ∀{k:List KI} {r fn:Nat} {nt:NT} {fr:List (Nat×SV)} {ps:Array Tmp} {x y:Code},rJ l k=some (r,fn,nt,fr,ps,x,y)→∃fd,KI.rf l r fn nt fr ps x y fd∈k
 | [],_,_,_,_,_,_,_,h=>by cases h
 | i::k,r,fn,nt,fr,ps,x,y,h=>by
  have go:rJ l k=some (r,fn,nt,fr,ps,x,y)→∃fd,KI.rf l r fn nt fr ps x y fd∈i::k:=fun h'=>by
   obtain⟨fd,hm⟩:=uP h';exact⟨fd,aqv _ hm⟩
  cases i with
  | rf l' r' fn' yh F7 ps' x' y' Zy=>
   unfold rJ at h;split at h
   ·rename_i hl;rw [beq_iff_eq]at hl;cases h;subst hl;exact⟨Zy,aqr⟩
   ·exact go h
  | _=>exact go h
theorem my{st:St}{ρ:Env}{w:World}(hw:HW Fs w0 st ρ w){l i r:Nat}{s:RS}{j:Jump}(h:recAt st.hp l=some (i,r,s,j)):
  w.heap[ρ.bv.getD l 0]? =some (.loop {ρ.lr.getD r je with state:=s.st,pending:=j.code}):=by
 obtain⟨S,hS⟩:=hw.own;have hi:=tm h;have cq:=(aqo.1 hi).1;exact(hS.at_ i ((Ck.lG l r s j).den ρ) (by rw [aqs (by simpa using cq),List.getElem?_map,hi];rfl)).1.2
theorem Cf{st:St}{ρ:Env}{w:World}(hw:HW Fs w0 st ρ w){l i r:Nat}{s:RS}{j:Jump}(h:recAt st.hp l=some (i,r,s,j))(s':RS)(j':Jump):
  HW Fs w0 {st with hp:=st.hp.set i (.lG l r s' j')} ρ (w.putObj (ρ.bv.getD l 0) (.loop {ρ.lr.getD r je with state:=s'.st,pending:=j'.code})):=by
 have hi:=tm h;have hb:=my hw h;have QN:ρ.bv.getD l 0<w.heap.size:=(aqw.1 hb).1;have cq:=(aqo.1 hi).1;obtain⟨S,hS⟩:=hw.own;have JY:(st.hp.map (Ck.den ρ))[i]? =some ((Ck.lG l r s j).den ρ):=by rw [List.getElem?_map,hi];rfl
 have dK:=hS.at_ i _ (by rw [aqs (by simpa using cq)];exact JY);have jt:=aqn.1 hw.gj _ (aqG hi);refine⟨hw.lens,hw.lx,aqn.2 fun q hq=>?_,hw.ot,hw.kn,?_,hw.same.trans ⟨rfl,rfl,rfl,by simp⟩,hw.mw⟩
 ·rcases aqT hq with hq | rfl
  ·exact aqn.1 hw.gj q hq
  ·exact jt
 ·show bG ((st.hp.set i (.lG l r s' j')).map (Ck.den ρ)++Fs) _;rw [List.map_set];refine bG.step hS i _ _ JY rfl (S i) (by simp) (fun k hk hn=>World.putObj_heap_other (fun e=>hn ((dK.1.1 k).2 e))) ⟨dK.1.1,?_⟩ (fun k hk=> .inl hk);exact World.putObj_heap_same QN
theorem uQ{ρ:Env}: ∀{l:List (Nat×SV)} {st mj:St} {a:Act} {w:World},lI st l=some mj→HW Fs w0 st ρ w→HA st.fr st.nt ρ a→
  HW Fs w0 mj ρ w∧HA mj.fr mj.nt ρ (l.foldl (fun a x=>a.put (some x.1) (x.2.val ρ)) a)∧mj.aW=st.aW∧mj.hp=st.hp
 | [],st,mj,a,w,h,hw,ha=>by
  simp only [lI,aqp]at h;subst h;exact⟨hw,ha,rfl,rfl⟩
 | (d,v)::r,st,mj,a,w,h,hw,ha=>by
  unfold lI at h;split at h
  ·rename_i hc;rw [ai]at hc;have vu:=ha.put (d:=some d) (v:=v) (u:=v.val ρ) (um hc.1) rfl st rfl;have e:=eI st (some d) v;obtain⟨h1,h2,h3,h4⟩:=uQ h (hw.put hc.2) (by rw [e.2.2.2.1];exact vu);exact⟨h1,h2,h3.trans e.2.1,h4.trans e.1⟩
  ·cases h
theorem Ly{ρ:Env}{a:Act}{w:World}{fr:List (Nat×SV)}{nt:NT}(ha:HA fr nt ρ a){o:Oper}{l:Nat}{az:List SV}(h:PY (look fr) o=some (l,az)){r:Loop}(hb:w.heap[ρ.bv.getD l 0]? =some (.loop r))
  (hs:az.length=r.params.size):
  (execOp a.eval o).run P w= .ok (.round (ρ.bv.getD l 0) r.fn ((r.params.zip (SV.bD ρ az).toArray).foldl (fun tmps (t,a)=>tmps.setIfInBounds t a) r.tmps) r.assign r.body) w∧∀c,o.op≠ .defer c:=by
 unfold PY at h;split at h
 ·rename_i fop args argTypes Bl;split at h
  ·rename_i l' Uw h1 h2;cases h;have e1:=ep ha.eval h1;have e2:=gD ha.eval _ _ h2;have e3:Array.map a.eval args=(SV.bD ρ az).toArray:=aqU (by rw [Array.toList_map,e2]);refine⟨?_,fun c hc=>by rw [Bl]at hc;cases hc⟩;have hlen: ∀l:List SV,(SV.bD ρ l).length=l.length:=by
    intro l;induction l with
    | nil=>rfl
    | cons x r ih=>simp [SV.bD,ih]
   have hy:=run_yield (P:=P) (args:=(SV.bD ρ az).toArray) hb (by simp [hlen,hs]);simp only [execOp,Bl,resolve,e1,SV.val,Deferred.ofValue,aqA,aqH,aqu,invoke,e3,Array.empty_append];exact hy
  ·cases h
 ·cases h
theorem H4{ρ:Env}(ps:Array Tmp)(az:List SV)(t:Array Value):
  (ps.toList.zip az).foldl (fun a x=>a.put (some x.1) (x.2.val ρ)) ({tmps:=t,defers:=[]}:Act)=
   {tmps:=(ps.zip (SV.bD ρ az).toArray).foldl (fun tmps (t,a)=>tmps.setIfInBounds t a) t,defers:=[]}:=by
 rw [←Array.foldl_toList,Array.toList_zip];generalize ps.toList=l
 induction l generalizing az t with
 | nil=>rfl
 | cons d l ih=>
  cases az with
  | nil=>rfl
  | cons v az=>
   simp only [List.zip_cons_cons,List.foldl_cons,SV.bD];exact ih az _
theorem Eb(hT:bx P C.T=true)(Bo:aH P C.FT)(D_:iu P C){n:Nat}(wQ: ∀m,m<n→qC P C al Fs w0 m)(LK: ∀m,m<n→sQ P C al Fs w0 m):sQ P C al Fs w0 n:=by
 intro ro all r k st ρ L a w hv hw ha gO;cases n with
 | zero=>exact hv.elim
 | succ n=>
  have hn:n<n+1:=Nat.lt_succ_self n;have up: ∀{e:Exit} {a:Act} {w:World} {bF:Env} {L':Nat→LC},Env.Le ρ bF→(∀j,j<nl k→L' j=L j)→QK P C al Fs w0 n k bF L' e a w→QK P C al Fs w0 (n+1) k ρ L e a w:=fun h1 h2 hq=>hq.mono (aqZ n) h1 h2
  cases r with
  | nil=>
   simp only [run]at hv;exact QK.here hn rfl hv hw ha
  | cons o r=>
   simp only [run]at hv;split at hv
   case isFalse=>exact hv.elim
   rename_i xC;have hd:=um xC;have hd0:=hd;have next: ∀{m:Nat} (dO:St) (v:SV) (u:Value) (bF:Env) (L':Nat→LC) (w':World),m≤n→Env.Le ρ bF→(∀j,j<nl k→L' j=L j)→dO.fr=st.fr→dO.nt=st.nt→HW Fs w0 dO bF w'→v.sc dO.aW=true→u=v.val bF→
     VC P al (run C m (.ops all r::k) (dO.put o.dst v)) bF L'→wpListIn (FW ro) 0 P all (QK P C al Fs w0 (n+1) k ρ L) r (a.put o.dst u) w':=by
    intro m dO v u bF L' w' hm h1 h2 TM LJ h3 h4 h5 h6;have eV:=Env.Le.eH hw.lens h1;have vu:=(ha.more hw.lx hw.mw eV).put (d:=o.dst) (v:=v) (u:=u) hd h5 dO TM;have:=LK m (by omega) ro all r k _ bF L' (a.put o.dst u) w' h6 (h3.put h4) (by rw [(eI dO o.dst v).2.2.2.1,LJ];exact vu) (gO.le h1);exact fT (fun e a w hq=>hq.mono (by omega) h1 h2) this
   have Al: ∀{m:Nat} (v:SV) (u:Value),m≤n→v.sc st.aW=true→u=v.val ρ→VC P al (run C m (.ops all r::k) (st.put o.dst v)) ρ L→wpListIn (FW ro) 0 P all (QK P C al Fs w0 (n+1) k ρ L) r (a.put o.dst u) w:=
    fun v u hm h1 h2 h3=>next st v u ρ L w hm (Env.Le.refl _) (fun _ _=>rfl) rfl rfl hw h1 h2 h3
   unfold wpListIn;split at hv
   ·exact hv.elim
   ·
    rename_i hg;have mN:=kW ha hw.kn hg;simp only [nX,BE.den]at mN;rw [if_neg (by rw [mN];simp)];exact⟨fun _ _=>trivial,Al .undef undef (Nat.le_refl _) rfl rfl hv⟩
   ·
    rename_i c eG hg;have mN:=kW ha hw.kn hg;simp only [nX]at mN;split at hv
    case isFalse=>exact hv.elim
    rename_i mC;have fork:VC P al (.fork c (run C n (.ops all ({o with guard:=none}::r)::k) (st.HM c)) (run C n (.ops all r::k) ((st.rU c).put o.dst .undef))) ρ L→
      (if Region.wanted o (yielded all a.tmps)=true then o.wpIn (FW ro) 0 P a w (wpListIn (FW ro) 0 P all (QK P C al Fs w0 (n+1) k ρ L) r) (QK P C al Fs w0 (n+1) k ρ L)
       else(∀f,o.about P w a.eval=some f→(FW ro).fn f)∧wpListIn (FW ro) 0 P all (QK P C al Fs w0 (n+1) k ρ L) r (a.put o.dst undef) w):=by
     intro hf;simp only [VC,br]at hf;rw [mN];cases hd:c.den ρ with
     | true=>
      rw [if_pos rfl];have xR:HW Fs w0 (st.HM c) ρ w:=by
       have:=hw.know ((BE.bK ρ c).1 hd) mC;refine⟨this.lens,aqn.2 fun x hx=>?_,this.gj,this.ot,this.kn,this.own,this.same,this.mw⟩;obtain⟨y,hy,rfl⟩:=aqV.1 hx;exact SV.XJ (aqn.1 hw.lx y hy)
      have h1:=LK n hn ro all ({o with guard:=none}::r) k (st.HM c) ρ L a w (hf.1 ((BE.bK ρ c).1 hd)) xR (HA.HM ha hd) gO;unfold wpListIn at h1;rw [if_pos (by simp [Region.wanted])]at h1;exact AV (Oper.yV (fun a w h=>fT (fun e a w hq=>up (Env.Le.refl _) (fun _ _=>rfl) hq) h) (fun e a w hq=>up (Env.Le.refl _) (fun _ _=>rfl) hq) h1)
     | false=>
      rw [if_neg (by simp)];have Ce:HW Fs w0 (st.rU c) ρ w:=by
       have:=hw.know (b:=jT c) (by rw [←BE.bK,dE,hd];rfl) (Db mC);refine⟨this.lens,aqn.2 fun x hx=>?_,this.gj,this.ot,this.kn,this.own,this.same,this.mw⟩;obtain⟨y,hy,rfl⟩:=aqV.1 hx;exact SV.Tm (aqn.1 hw.lx y hy)
      have YC:=(HA.rU ha hd).put (d:=o.dst) (v:= .undef) (u:=undef) hd0 rfl (st.rU c) rfl;have:=LK n hn ro all r k _ ρ L (a.put o.dst undef) w (hf.2 fun h=>by rw [←BE.bK,hd]at h;cases h) (Ce.put rfl) (by rw [(eI (st.rU c) o.dst .undef).2.2.2.1];exact YC) gO;exact⟨fun _ _=>trivial,fT (fun e a w hq=>hq.mono (by omega) (Env.Le.refl _) fun _ _=>rfl) this⟩
    split at hv
    ·rename_i res D3;obtain⟨D1,JZ⟩:=lX D3;split at hv
     ·rename_i Rn;obtain⟨bY,hv⟩:=iZ hw.kn hv;simp only [nX]at bY;rw [mN];have jt:=JZ;simp only [gY.sc,ai,Rn,yZ.grow]at jt;cases hd:c.den ρ with
      | true=>
       rw [if_pos rfl];obtain⟨S,hS⟩:=hw.own;have hD:=qA (P:=P) hT (Env.ok ρ) (ha.vw hw.kn (g:=some c) hd) D1 (y4 S hS _) (bY hd) hw.lens.b;unfold Did at hD;rw [Rn]at hD;refine nB (vz D1) (.inl hD) ?_;refine Al (.opt c res.val) _ (Nat.le_refl _) ?_ ?_ hv
       ·simp only [SV.sc,ai];exact⟨mC,jt.1.1⟩
       ·simp only [SV.val,hd,if_true]
      | false=>
       rw [if_neg (by simp)];refine⟨fun _ _=>trivial,Al (.opt c res.val) undef (Nat.le_refl _) ?_ ?_ hv⟩
       ·simp only [SV.sc,ai];exact⟨mC,jt.1.1⟩
       ·simp [SV.val,hd]
     ·exact fork hv
    ·exact fork hv
   ·
    rename_i hg;have mN:=kW ha hw.kn hg;simp only [nX]at mN;rw [if_pos mN];split at hv
    ·rename_i res D3;obtain⟨D1,JZ⟩:=lX D3;obtain⟨bY,hv⟩:=iZ hw.kn hv;have bY:=bY rfl;obtain⟨S,hS⟩:=hw.own;have hD:=qA (P:=P) hT (Env.ok ρ) (ha.vw hw.kn (g:=none) rfl) D1 (y4 S hS _) bY hw.lens.b;have rM:VC P al (ab0 res.gZ (run C n (.ops all r::k) (({dJ st res.gZ with known:=more res.vcs st.known}:St).put o.dst res.val))) ρ L:=by
      cases he:res.gZ<;>rw [he]at hv<;>exact hv
     obtain⟨u,w',bF,ik,hle,U5,hu,aim,FR⟩:=P_ hw hS hD JZ bY rM;refine nB (vz D1) ik ?_;obtain⟨e1,e2,e3,e4,e5⟩:=AT st res.gZ;exact next {dJ st res.gZ with known:=more res.vcs st.known} res.val u bF L w' (Nat.le_refl _) hle (fun _ _=>rfl) e1 e2 U5 (by rw [show({dJ st res.gZ with known:=more res.vcs st.known}:St).aW=(dJ st res.gZ).aW from rfl,e5];exact aim) hu FR
    ·split at hv
     ·rename_i f az qD;split at hv
      ·exact hv.elim
      ·rename_i fd y7;have Cd:=List.mem_of_find?_eq_some y7;have JG:=List.find?_some y7;simp only [beq_iff_eq]at JG;obtain⟨hf,D7⟩:=Bo _ Cd;simp only at hf D7;rw [JG]at hf;split at hv
       ·split at hv
        case h_2=>exact hv.elim
        rename_i ca hca;split at hv
        case isFalse=>exact hv.elim
        rename_i jt;simp only [ai,decide_eq_true_eq]at jt;obtain⟨⟨⟨kx,xD⟩,kr⟩,Dh⟩:=jt;have cq: ∀i∈ca.use az st.hp,i<st.hp.length:=fun i hi=>by simpa [aqB] using aqn.1 kr i hi
        simp only [VC]at hv;obtain⟨post,Am,Qh⟩:=hv;have cY:=bG.ug (acc:=[]) (use:=ca.use az st.hp) (by simpa using hw.own) Dh (by simpa using cq);have H3:((ca.use az st.hp).map fun i=>st.hp.getD i .emp).map (Ck.den ρ)=(ca.use az st.hp).map (fun i=>(st.hp.map (Ck.den ρ)).getD i HP.emp):=by
         rw [List.map_map];refine List.map_congr_left fun i hi=>?_
         have:=cq i hi;simp [this]
        rw [List.nil_append,←H3]at cY;obtain⟨v,hs,w',hR,hp,Ai,Ah⟩:=Am w _ cY;obtain⟨ik,gV⟩:=Tn (P:=P) (w:=w) ha qD;have hx:=Qh v hs hp;rw [kM]at hx;obtain⟨e2,sK,rfl,rfl,FR⟩:=hx;have hle:=Env.im ρ e2;have eV:=Env.Le.eH hw.lens hle;refine nB gV (.inl (ik.trans hR)) ?_;refine next {st with hp:=gw st.hp (ca.use az st.hp) (ca.new st.aW ((ca.use az st.hp).map fun i=>st.hp.getD i .emp)),aW:=st.aW.add ca.inc} (rH ca az st.hp st.aW) _ (ρ.ext e2) L w' (Nat.le_refl _) hle (fun _ _=>rfl) rfl rfl ?_ kx rfl FR;refine⟨hw.lens.ext sK,cP (ct.kO _ _) hw.lx,?_,fF (ct.kO _ _) hw.ot,fun b hb=>?_,?_,hw.same.trans Ah,dF (ct.kO _ _) hw.mw⟩
        ·exact mz _ _ rfl _ _ _ (ju (ct.kO _ _) hw.gj) xD
        ·exact(BE.iE eV (aqn.1 hw.ot b hb)).1 (hw.kn b hb)
        ·have h1:=bG.lI (use:=ca.use az st.hp) Ai (fun i hi=>by rw [lV];simpa using cq i hi) fun _ _=> .inr trivial
         rw [←jK _ _ _ Dh,kK eV hw.gj]at h1;simp only [gw];rw [mv];exact h1
       ·rename_i c hb;obtain⟨ik,gV⟩:=Qf (P:=P) (w:=w) ha qD hf D7 hb;refine⟨fun _ _=>trivial,?_⟩;rw [Oper.semAt_eq _ _ _ gV,ik,Oper.uponIn_enter];refine⟨fun h=>(by cases h),?_⟩;split at hv
        ·rename_i r0 ain;split at hv
         case isFalse=>exact hv.elim
         rename_i jt;simp only [ai,decide_eq_true_eq]at jt;obtain⟨⟨⟨kx,xD⟩,kr⟩,Dh⟩:=jt;obtain⟨bY,hv⟩:=iZ hw.kn hv;have cq: ∀i∈r0.use,i<st.hp.length:=fun i hi=>by simpa [aqB] using aqn.1 kr i hi
         have Am:=D_ f az st.hp r0 ρ ain (bY rfl);have cY:=bG.ug (acc:=[]) (use:=r0.use) (by simpa using hw.own) Dh (by simpa using cq);have H3:(r0.use.map fun i=>st.hp.getD i .emp).map (Ck.den ρ)=r0.use.map (fun i=>(st.hp.map (Ck.den ρ)).getD i HP.emp):=by
          rw [List.map_map];refine List.map_congr_left fun i hi=>?_
          have:=cq i hi;simp [this]
         rw [List.nil_append,←H3]at cY;refine Jk ?_;have hc:=Am w _ cY;intro cs;obtain⟨e,w',F7,hR,Qi,hfn,H5⟩:=hc cs;refine⟨e,w',F7,?_,Qi,hfn,H5⟩;obtain⟨x,hs,rfl,⟨hx,rfl⟩,Ai,Ah⟩:=hR;subst hx;refine next {st with hp:=gw st.hp r0.use r0.new} r0.val _ ρ L w' (Nat.le_refl _) (Env.Le.refl _) (fun _ _=>rfl) rfl rfl ⟨hw.lens,hw.lx,?_,hw.ot,hw.kn,?_,hw.same.trans Ah,hw.mw⟩ kx rfl hv
         ·exact mz _ _ rfl _ _ _ hw.gj xD
         ·have h1:=bG.lI (use:=r0.use) Ai (fun i hi=>by rw [lV];simpa using cq i hi) fun _ _=> .inr trivial
          rw [←jK _ _ _ Dh]at h1;simp only [gw];rw [mv];exact h1
        split at hv
        ·rename_i ca hca;split at hv
         case isFalse=>exact hv.elim
         rename_i jt;simp only [ai,decide_eq_true_eq]at jt;obtain⟨⟨⟨kx,xD⟩,kr⟩,Dh⟩:=jt;have cq: ∀i∈ca.use az st.hp,i<st.hp.length:=fun i hi=>by simpa [aqB] using aqn.1 kr i hi
         simp only [VC]at hv;obtain⟨post,Am,Qh⟩:=hv;have cY:=bG.ug (acc:=[]) (use:=ca.use az st.hp) (by simpa using hw.own) Dh (by simpa using cq);have H3:((ca.use az st.hp).map fun i=>st.hp.getD i .emp).map (Ck.den ρ)=(ca.use az st.hp).map (fun i=>(st.hp.map (Ck.den ρ)).getD i HP.emp):=by
          rw [List.map_map];refine List.map_congr_left fun i hi=>?_
          have:=cq i hi;simp [this]
         rw [List.nil_append,←H3]at cY;refine Jk ?_;have hc:=Am w _ cY;intro cs;obtain⟨e,w',F7,hR,Qi,hfn,H5⟩:=hc cs;refine⟨e,w',F7,?_,Qi,hfn,H5⟩;obtain⟨v,hs,rfl,hp,Ai,Ah⟩:=hR;have hx:=Qh v hs hp;rw [kM]at hx;obtain⟨e2,sK,rfl,rfl,FR⟩:=hx;have hle:=Env.im ρ e2;have eV:=Env.Le.eH hw.lens hle;refine next {st with hp:=gw st.hp (ca.use az st.hp) (ca.new st.aW ((ca.use az st.hp).map fun i=>st.hp.getD i .emp)),aW:=st.aW.add ca.inc} (rH ca az st.hp st.aW) _ (ρ.ext e2) L w' (Nat.le_refl _) hle (fun _ _=>rfl) rfl rfl ?_ kx rfl FR;refine⟨hw.lens.ext sK,cP (ct.kO _ _) hw.lx,?_,fF (ct.kO _ _) hw.ot,fun b hb=>?_,?_,hw.same.trans Ah,dF (ct.kO _ _) hw.mw⟩
         ·exact mz _ _ rfl _ _ _ (ju (ct.kO _ _) hw.gj) xD
         ·exact(BE.iE eV (aqn.1 hw.ot b hb)).1 (hw.kn b hb)
         ·have h1:=bG.lI (use:=ca.use az st.hp) Ai (fun i hi=>by rw [lV];simpa using cq i hi) fun _ _=> .inr trivial
          rw [←jK _ _ _ Dh,kK eV hw.gj]at h1;simp only [gw];rw [mv];exact h1
        ·split at hv
         case isFalse=>exact hv.elim
         rename_i jt;refine Qg (FK hT (wQ n hn) hf hb hv jt hw (fun l r fn nt fr ps x y fd hm=>gO.rf l r fn nt fr ps x y fd (by simpa using hm)) ?_);intro v w' m dO bF L' hm h1 h2 h3 h4 h5 h6;have eG:=hG.le hw.lens h3.lens h1;have Ip:HW Fs w0 (gE dO st.fn st.nt st.fr) bF w':=⟨h3.lens,cP eG hw.lx,h3.gj,h3.ot,h3.kn,h3.own,h3.same,dF eG hw.mw⟩;exact next (gE dO st.fn st.nt st.fr) v _ bF L' w' (Nat.le_of_lt hm) h1 h2 rfl rfl Ip h4 rfl h6
     ·split at hv
      case h_2=>exact hv.elim
      rename_i l az Zn;split at hv
      case h_2=>exact hv.elim
      rename_i rr fn nt fr ps x y i' r' s' j' y7 GA;split at hv
      case isFalse=>exact hv.elim
      rename_i hc;rw [ai,decide_eq_true_eq,beq_iff_eq]at hc;obtain⟨rfl,hlen⟩:=hc;split at hv
      case h_2=>exact hv.elim
      rename_i mj nR;obtain⟨fd,Cd⟩:=uP y7;obtain⟨wR,c0,k1,k2,k3,k4,k5,k6,k7,k8⟩:=gO.rf l rr fn nt fr ps x y fd Cd;have ab4:=Env.Le.eH k1 k2;have hlr:wR.lr.getD rr je=ρ.lr.getD rr je:=ab4.r _ k4;rw [hlr]at k5 k6 k7 k8;have lF:=my hw GA;obtain⟨ik,gV⟩:=Ly (P:=P) ha Zn lF (by rw [hlen,←k5]);refine⟨fun _ _=>trivial,?_⟩;rw [Oper.semAt_eq _ _ _ gV,ik,Oper.uponIn_round];refine⟨fun h=>(by cases h),?_⟩;refine roundIn_of_wpIn trivial ?_;simp only [k5,k6,k7];have xR:HW Fs w0 (gE st fn ⟨nt.n,[]⟩ fr) ρ w:=⟨hw.lens,cP (hG.le k1 hw.lens k2) k3,hw.gj,hw.ot,hw.kn,hw.own,hw.same,rfl⟩;have GB:HA fr ⟨nt.n,[]⟩ ρ {tmps:=(ρ.lr.getD rr je).tmps,defers:=[]}:=k8.more k3 rfl ab4;obtain⟨Ce,YC,aj7,_⟩:=uQ nR xR GB;rw [H4]at YC;have JT:FW ro=FW ro:=rfl;have Xl:l<st.aW.b:=by
       have:=aqn.1 hw.gj _ (aqG (tm GA));simp only [Ck.sc,ai,aqB]at this;exact this.1
      have D8:B_ ρ (.begin l:: .code y:: .round l st.fn st.nt st.fr o.dst:: .ops all r::k) (some (ρ.bv.getD l 0)):=
       ⟨fun l r fn nt fr ps x y fd hm=>gO.rf l r fn nt fr ps x y fd (by simpa using hm),⟨ρ,st.aW,hw.lens,Env.Le.refl _,Xl,rfl⟩⟩
      refine wpIn_mono (wQ n hn (some (ρ.bv.getD l 0)) x _ mj ρ L _ w hv Ce YC D8) ?_;intro e a1 w1 hq;obtain⟨k',kv,m,hm,D4,Ir,L2,g1,g2,g3,g4,g5⟩:=hq;cases e with
      | normal=>
       cases kv;cases m with
       | zero=>exact g5.elim
       | succ m=>
        simp only [run]at g5;split at g5
        case h_2=>exact g5.elim
        rename_i i2 r2 j2 Ux;have Uy:=my g3 Ux;have Zw:Ir.bv.getD l 0=ρ.bv.getD l 0:=((Env.Le.eH hw.lens g1).b l Xl).symm;rw [Zw]at Uy;refine⟨_,run_beginRound Uy rfl,?_⟩;have Ip:=Cf g3 Ux .busy j2;rw [Zw]at Ip;cases m with
        | zero=>exact g5.elim
        | succ m=>
        have ab5:B_ Ir (.round l st.fn st.nt st.fr o.dst:: .ops all r::k) (some (ρ.bv.getD l 0)):=
         ⟨fun l r fn nt fr ps x y fd hm=>(gO.le g1).rf l r fn nt fr ps x y fd (by simpa using hm),⟨ρ,st.aW,hw.lens,g1,Xl,rfl⟩⟩
        refine wpIn_mono (wQ (m+1) (by omega) (some (ρ.bv.getD l 0)) y _ _ Ir L2 a1 _ g5 Ip g4 ab5) ?_;have fin: ∀(j:Jump) (a3:Act) (w3:World),At P C al Fs w0 (m+1) (.mL l j st.fn st.nt st.fr o.dst:: .ops all r::k) Ir L2 a3 w3→
          ∃v w',(Instr.endRound (ρ.bv.getD l 0) j.code).run P w3= .ok v w'∧wpListIn (FW ro) 0 P all (QK P C al Fs w0 (n+1) k ρ L) r (a.put o.dst v) w':=by
         intro j a3 w3 ⟨m3,hm3,YD,ρ3,L3,q1,q2,q3,q4,q5⟩;cases m3 with
         | zero=>exact q5.elim
         | succ m3=>
          simp only [run]at q5;split at q5
          case h_2=>exact q5.elim
          rename_i i3 r3 s3 j3 Uz;split at q5
          case isFalse=>exact q5.elim
          rename_i aor;have Lx:=g1.trans q1;have UA:=my q3 Uz;have ab7:ρ3.bv.getD l 0=ρ.bv.getD l 0:=((Env.Le.eH hw.lens Lx).b l Xl).symm;rw [ab7]at UA;refine⟨_,_,run_endRound j.code UA,?_⟩;have MX:=Cf q3 Uz (if j= .none then .ready else .done) j;rw [ab7]at MX;have eG:=hG.le hw.lens q3.lens Lx;have hw5:HW Fs w0 (gE {YD with hp:=YD.hp.set i3 (.lG l r3 (if j= .none then .ready else .done) j)} st.fn st.nt st.fr) ρ3 _:=⟨MX.lens,cP eG hw.lx,MX.gj,MX.ot,MX.kn,MX.own,MX.same,dF eG hw.mw⟩;have:=next (gE {YD with hp:=YD.hp.set i3 (.lG l r3 (if j= .none then .ready else .done) j)} st.fn st.nt st.fr) (.bool (.lit (decide (j= .none)))) (.bool j.code.isNone) ρ3 L3 _ (by omega) Lx
           (fun j hj=>(q2 j hj).trans (g2 j hj)) rfl rfl hw5 rfl (by cases j<;>rfl) q5
          cases j<;>exact this
        intro e3 a3 w3 hq3;obtain⟨k3',YE,XL⟩:=hq3;cases e3 with
        | normal=>
         cases YE;refine fin .none a3 w3 ?_;obtain⟨m3,hm3,YD,ρ3,L3,q1,q2,q3,q4,q5⟩:=XL;cases m3 with
         | zero=>exact q5.elim
         | succ m3=>exact⟨m3,by omega,YD,ρ3,L3,q1,q2,q3,q4,q5⟩
        | ret=>cases YE;exact fin .ret a3 w3 XL
        | exit id=>cases YE;exact fin (.exit id) a3 w3 XL
        | goto l=>cases YE
        | panic l=>cases YE
        | outgrown=>cases YE
      | exit id=>cases kv
      | ret=>cases kv
      | goto l=>cases kv
      | panic l=>cases kv
      | outgrown=>cases kv
end
end Go.RX
