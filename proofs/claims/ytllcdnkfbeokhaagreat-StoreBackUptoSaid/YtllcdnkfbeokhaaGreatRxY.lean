/- Executor. -/
import Derived.Test.YtllcdnkfbeokhaaGreatRxX
import Derived.RangeFuncNested
open Array renaming ext' → auY, getD_eq_getD_getElem? → auQ, getElem?_eq_some_iff → auy
open Bool renaming and_eq_true → ai
open Go.Result renaming andThen_ok → aut
open Go.Sem renaming run_bind → auC, run_pure → auI
open List renaming all_eq_true → auo, getElem?_append_left → auu, getElem?_eq_getElem → auU, getElem?_eq_some_iff → aup, mem_cons_of_mem → auw, mem_cons_self → aur, mem_map → auL, mem_of_getElem? → auM, mem_or_eq_of_mem_set → au1
open Nat renaming blt_eq → auF, le_succ → au4
open Option renaming map_eq_some_iff → aus
open Option.some renaming injEq → auq
namespace Go.RX
def gW(P:Program)(C:Ctx):Prop:= ∀f az hp r (ρ:Env),E1 C f az hp=some r→(∀b∈r.vcs,b.prop ρ)→
 aq P f (SV.bH ρ az) ((r.use.map fun i=>hp.getD i .emp).map (Ck.den ρ)) fun x hs=>x=r.val.val ρ∧hs=r.new.map (Ck.den ρ)
theorem gW.none{P:Program}{C:Ctx}(h:C.pure=fun _=>Option.none):gW P C:=by
 intro f az hp r ρ hp;simp [E1,h]at hp
def aJ(P:Program)(FT:List (Nat×Func)):Prop:= ∀x∈FT,P.funcs[x.1]? =some x.2∧(x.2.name== "runtime.NumGoroutine")=false
section
variable {P:Program} {C:Ctx} {al:Value→List HP→Prop} {Fs:List HP} {w0:World}
theorem oJ{ρ:Env}(a b:List SV):SV.bH ρ (a++b)=SV.bH ρ a++SV.bH ρ b:=by
 induction a with
 | nil=>rfl
 | cons x r ih=>simp only [List.cons_append,SV.bH,ih]
theorem H7{ρ:Env}: ∀(l:List SV) (i:Nat),(SV.bH ρ l)[i]? =(l[i]?).map (SV.val ρ)
 | [],i=>by simp [SV.bH]
 | x::r,0=>by simp [SV.bH]
 | x::r,i+1=>by simp only [SV.bH,List.getElem?_cons_succ];exact H7 r i
theorem Dw{ρ:Env}: ∀(l:List SV) (n s:Nat) (v:SV),look (fI n l) s=some v→n≤s∧l[s - n]? =some v
 | [],n,s,v,h=>by cases h
 | x::r,n,s,v,h=>by
  unfold fI look at h;split at h
  ·rename_i hs;rw [beq_iff_eq]at hs;subst hs;cases h;exact⟨Nat.le_refl _,by simp⟩
  ·rename_i hs;obtain⟨h1,h2⟩:=Dw (ρ:=ρ) r (n+1) s v h;refine⟨by omega,?_⟩;rw [show s - n=(s - (n+1))+1 by omega,List.getElem?_cons_succ];exact h2
theorem zt{c:cG}: ∀(l:List SV) (n:Nat),SV.qM c l=true→mP c (fI n l)=true
 | [],n,_=>rfl
 | x::r,n,h=>by
  simp only [SV.qM,ai]at h;simp only [fI,mP,List.all_cons,ai];exact⟨h.1,zt r (n+1) h.2⟩
theorem Aw{ρ:Env}(az:List SV)(nt:Nat):HA (fI 0 az) ⟨nt,[]⟩ ρ {tmps:=(SV.bH ρ az).toArray++Array.replicate (nt - (SV.bH ρ az).toArray.size) undef,defers:=[]}:=by
 refine⟨rfl,by simp;omega,fun s v hs=>?_⟩;obtain⟨_,h2⟩:=Dw (ρ:=ρ) az 0 s v hs;rw [Nat.sub_zero]at h2;have h3:(SV.bH ρ az)[s]? =some (v.val ρ):=by rw [H7,h2];rfl
 rw [auQ,Array.getElem?_append_left (by simpa using (aup.1 h3).1)];simp [h3]
theorem TG{ρ:Env}{a:Act}{w:World}{fr:List (Nat×SV)}{nt:NT}(ha:HA fr nt ρ a){o:Oper}{f:Nat}{az:List SV}(h:BJ (look fr) o=some (f,az))
  {fd:Func} (hf:P.funcs[f]? =some fd) (hn:(fd.name== "runtime.NumGoroutine")=false) {c:Code} (hb:fd.body=some c):
  (execOp a.eval o).run P w= .ok (.enter f (SV.bH ρ az).toArray) w∧∀c,o.op≠ .defer c:=by
 unfold BJ at h;split at h
 ·rename_i fop args argTypes C4;split at h
  ·rename_i f' jq Yp h1 h2;cases h;have e1:=eH ha.eval h1;have e2:=hJ ha.eval _ _ h2;have e3:Array.map a.eval args=(SV.bH ρ Yp).toArray:=auY (by rw [Array.toList_map,e2]);refine⟨?_,fun c hc=>by rw [C4]at hc;cases hc⟩;simp only [execOp,C4,resolve,e1,SV.val,Deferred.ofValue,auC,auI,aut,invoke,callFunc,e3];have UI: ¬fd.name= "runtime.NumGoroutine" :=by simpa using hn
   simp [hf,UI,hb,oJ]
  ·rename_i f' first Yp h1 h2
   cases h;have e1:=eH ha.eval h1;have e2:=hJ ha.eval _ _ h2;have e3:Array.map a.eval args=(SV.bH ρ Yp).toArray:=auY (by rw [Array.toList_map,e2]);refine⟨?_,fun c hc=>by rw [C4]at hc;cases hc⟩;simp only [execOp,C4,resolve,e1,SV.val,Deferred.ofValue,auC,auI,aut,invoke,callFunc,e3];have UI: ¬fd.name= "runtime.NumGoroutine" :=by simpa using hn
   simp [hf,UI,hb,oJ]
  ·cases h
 ·cases h
theorem Xr{ρ:Env}{a:Act}{w:World}{fr:List (Nat×SV)}{nt:NT}(ha:HA fr nt ρ a){o:Oper}{f:Nat}{az:List SV}(h:BJ (look fr) o=some (f,az)):
  (execOp a.eval o).run P w=(callFunc f (SV.bH ρ az).toArray).run P w∧∀c,o.op≠ .defer c:=by
 unfold BJ at h;split at h
 ·rename_i fop args argTypes C4;split at h
  ·rename_i f' jq Yp h1 h2;cases h;have e1:=eH ha.eval h1;have e2:=hJ ha.eval _ _ h2;have e3:Array.map a.eval args=(SV.bH ρ Yp).toArray:=auY (by rw [Array.toList_map,e2]);refine⟨?_,fun c hc=>by rw [C4]at hc;cases hc⟩;simp only [execOp,C4,resolve,e1,SV.val,Deferred.ofValue,auC,auI,aut,invoke,e3,oJ];simp
  ·rename_i f' first Yp h1 h2
   cases h;have e1:=eH ha.eval h1;have e2:=hJ ha.eval _ _ h2;have e3:Array.map a.eval args=(SV.bH ρ Yp).toArray:=auY (by rw [Array.toList_map,e2]);refine⟨?_,fun c hc=>by rw [C4]at hc;cases hc⟩;simp only [execOp,C4,resolve,e1,SV.val,Deferred.ofValue,auC,auI,aut,invoke,e3,oJ];simp
  ·cases h
 ·cases h
theorem Me{ro:Option Nat}{n:Nat}{f:FuncId}{args:Array Value}{w:World}{R:Ending→World→Prop}(h:Calls P f args w R):CallsIn (FW ro) n P f args w R:=by
 have:CallsIn Fence.wide n P f args w R:=callsIn_wide.2 h;exact this
theorem TH{ro:Option Nat}{n:Nat}{f:FuncId}{args:Array Value}{w:World}{R:Ending→World→Prop}(h:CallsIn (FW none) n P f args w R):CallsIn (FW ro) n P f args w R:=h
theorem B1{fn:Func}{tmps:Array Value}{R:Ending→World→Prop}{u:FrameMode}(hu:u≠ .run){r:List Deferred}{i:Nat}: ∀{l:List Nat} {hs:List HP} {w:World},hs[i]? =some (mv l)→bz (hs++Fs) w→
  (∀w',bz (hs.set i HP.emp++Fs) w'→iP w w'→LeavesInM (FW none) 0 P fn tmps R r u w')→LeavesInM (FW none) 0 P fn tmps R (l.map (fun b=>{target:= .collected b,args:= #[]})++r) u w
 | [],hs,w,hi,ho,hk=>by
  obtain⟨S,hS⟩:=ho;refine hk w ?_ (iP.refl w);have dH:=hS.at_ i _ (by rw [auu (aup.1 hi).1];exact hi);exact bz.step hS i _ _ hi rfl (fun _=>False) (Nat.le_refl _) (fun _ _ _=>rfl) (fun k hk=>hk) (fun k hk=>hk.elim)
 | b::l,hs,w,hi,ho,hk=>by
  obtain⟨S,hS⟩:=ho;have cF:=(aup.1 hi).1;have dH:=hS.at_ i _ (by rw [auu cF];exact hi);obtain⟨⟨p1,p2,p3⟩,p4⟩:=dH;have mw:w.heap[b]? =some (.deferred (some [])):=p3 b aur;have hbn:=(List.nodup_cons.1 p2);refine⟨hu,.inl ⟨b,w.putObj b (.deferred none),rfl,run_takeDeferred mw,?_⟩⟩;have du:bz (hs.set i (mv l)++Fs) (w.putObj b (.deferred none)):=by
   refine bz.step hS i _ _ hi rfl (fun k=>k∈l) (by simp [World.putObj]) (fun k hk hn=>?_) ⟨fun k=>Iff.rfl,hbn.2,fun k hk=>?_⟩ (fun k hk=> .inl ((p1 k).2 (auw _ hk)))
   ·exact World.putObj_heap_other (fun e=>hn ((p1 k).2 (by rw [e];exact aur)))
   ·rw [World.putObj_heap_other (fun e=>hbn.1 (by rw [←e];exact hk))];exact p3 k (auw _ hk)
  refine B1 hu (l:=l) (hs:=hs.set i (mv l)) (by rw [List.getElem?_set_self cF]) du fun w' Ii uu=>?_
  rw [List.set_set]at Ii;exact hk w' Ii ((show iP w (w.putObj b (.deferred none))from⟨rfl,rfl,rfl,by simp⟩).trans uu)
theorem sF{fn:Func}{tmps:Array Value}{R:Ending→World→Prop}{u:FrameMode}(hu:u≠ .run){ρ:Env}: ∀{ds:List MK} {hp nh:List Ck} {w:World},leave hp ds=some nh→bz (hp.map (Ck.den ρ)++Fs) w→
  (∀w',bz (nh.map (Ck.den ρ)++Fs) w'→iP w w'→LeavesInM (FW none) 0 P fn tmps R [] u w')→LeavesInM (FW none) 0 P fn tmps R (marks ρ ds) u w
 | [],hp,nh,w,h,ho,hk=>by
  simp only [leave,auq]at h;subst h;exact hk w ho (iP.refl w)
 | .many d::ds,hp,nh,w,h,ho,hk=>by
  unfold leave at h;split at h
  ·rename_i i hi;rw [List.findIdx?_eq_some_iff_getElem]at hi;obtain⟨cF,hd,_⟩:=hi;have rV:hp[i]? =some (.vB d):=by
    cases hc:hp[i]with
    | vB b=>
     rw [hc]at hd;simp only [Ck.xI,beq_iff_eq]at hd;subst hd;rw [auU cF,hc]
    | _=>rw [hc]at hd;simp [Ck.xI]at hd
   have MR:(hp.map (Ck.den ρ))[i]? =some (mv (rA (ρ.bv.getD d 0))):=by rw [List.getElem?_map,rV];rfl
   rw [show marks ρ (.many d::ds)=(rA (ρ.bv.getD d 0)).map (fun b=>{target:= .collected b,args:= #[]})++marks ρ ds by simp only [marks,List.flatMap_cons,MK.blocks,List.map_append]];refine B1 hu MR ho fun w' Ii uu=>?_
   have MW:bz ((hp.set i .emp).map (Ck.den ρ)++Fs) w':=by rw [List.map_set];exact Ii
   exact sF hu h MW fun w2 h2 amj=>hk w2 h2 (uu.trans amj)
  ·cases h
 | .one d::ds,hp,nh,w,h,ho,hk=>by
  unfold leave at h;split at h
  ·rename_i i hi;rw [List.findIdx?_eq_some_iff_getElem]at hi;obtain⟨cF,hd,_⟩:=hi;have rV:hp[i]? =some (.MO d):=by
    cases hc:hp[i]with
    | MO b=>
     rw [hc]at hd;simp only [Ck.Du,beq_iff_eq]at hd;subst hd;rw [auU cF,hc]
    | _=>rw [hc]at hd;simp [Ck.Du]at hd
   obtain⟨S,hS⟩:=ho;have MR:(hp.map (Ck.den ρ))[i]? =some (zQ (ρ.bv.getD d 0)):=by rw [List.getElem?_map,rV];rfl
   have dH:=hS.at_ i _ (by rw [auu (by simpa using cF)];exact MR);have mw:w.heap[ρ.bv.getD d 0]? =some (.deferred (some [])):=dH.1.2;have Ui:ρ.bv.getD d 0<w.heap.size:=(auy.1 mw).1;refine⟨hu,.inl ⟨ρ.bv.getD d 0,w.putObj (ρ.bv.getD d 0) (.deferred none),rfl,run_takeDeferred mw,?_⟩⟩;have du:bz ((hp.set i .emp).map (Ck.den ρ)++Fs) (w.putObj (ρ.bv.getD d 0) (.deferred none)):=by
    rw [List.map_set];refine bz.step hS i _ _ MR rfl (fun _=>False) (by simp [World.putObj]) (fun k hk hn=>?_) (fun k hk=>hk) (fun k hk=>hk.elim);exact World.putObj_heap_other (fun e=>hn ((dH.1.1 k).2 e))
   refine sF hu h du fun w' Ii uu=>hk w' Ii ((show iP w (w.putObj (ρ.bv.getD d 0) (.deferred none))from⟨rfl,rfl,rfl,by simp⟩).trans uu)
  ·cases h
theorem B2{c:cG}: ∀{ds:List MK} {hp nh:List Ck},leave hp ds=some nh→hp.all (Ck.sc c)=true→nh.all (Ck.sc c)=true
 | [],hp,nh,h,hs=>by simp only [leave,auq]at h;subst h;exact hs
 | .many d::ds,hp,nh,h,hs=>by
  unfold leave at h;split at h
  ·refine B2 h (auo.2 fun x hx=>?_);rcases au1 hx with hx | rfl
   ·exact auo.1 hs x hx
   ·rfl
  ·cases h
 | .one d::ds,hp,nh,h,hs=>by
  unfold leave at h;split at h
  ·refine B2 h (auo.2 fun x hx=>?_);rcases au1 hx with hx | rfl
   ·exact auo.1 hs x hx
   ·rfl
  ·cases h
theorem oV{fd:Func}{R:Ending→World→Prop}{st d_:St}{ρ:Env}{a:Act}{w:World}(h:ou st=some d_)(hw:HW Fs w0 st ρ w)(ha:HA st.fr st.nt ρ a)
  (hk: ∀w',HW Fs w0 d_ ρ w'→∃v,(results fd a.tmps).run P w'= .ok v w'∧R (.returned v) w'):LeavesInM (FW none) 0 P fd a.tmps R a.defers .returning w:=by
 unfold ou at h;rw [aus]at h;obtain⟨nh,hl,rfl⟩:=h;rw [ha.defers];refine sF (by simp) hl hw.own fun w' ho uu=>?_
 obtain⟨v,h1,h2⟩:=hk w' ⟨hw.lens,hw.mj,B2 hl hw.gP,hw.o9,hw.kn,ho,hw.same.trans uu,hw.ng⟩;exact⟨v,h1,h2⟩
theorem H8(hT:bB P C.T=true){n:Nat}(yj:rQ P C al Fs w0 n){c:Code}{fd:Func}{f:Nat}(hf:P.funcs[f]? =some fd)(hb:fd.body=some c){k:List KI}{st:St}{ρ:Env}{L:Nat→LC}{w:World}{az:List SV}{fn:Nat}{nt:NT}{fr:List (Nat×SV)}{d:Option Nat}
  (hv:VC P al (run C n (.code c:: .call fn nt fr d fd::k) (hU st f ⟨fd.ntmps,[]⟩ (fI 0 az))) ρ L) (jM:SV.qM st.a_ az=true) (hw:HW Fs w0 st ρ w) (hrf: ∀l r fn nt fr ps x y fd,KI.rf l r fn nt fr ps x y fd∈k→∃yl c0,iG yl c0∧Env.Le yl ρ∧mP c0 fr=true∧r<c0.r∧(yl.lr.getD r jA).params=ps∧(yl.lr.getD r jA).assign=x∧(yl.lr.getD r jA).body=y∧HA fr ⟨nt.n,[]⟩ yl {tmps:=(yl.lr.getD r jA).tmps,defers:=[]}) {R:Ending→World→Prop}
  (hR: ∀v w' m d_ bJ L',m<n→Env.Le ρ bJ→(∀j,j<nl k→L' j=L j)→HW Fs w0 d_ bJ w'→v.sc d_.a_=true→rP (hU d_ fn nt fr) d=true→
   VC P al (run C m k ((hU d_ fn nt fr).put d v)) bJ L'→R (.returned (v.val bJ)) w'):
  CallsIn (FW none) 0 P f (SV.bH ρ az).toArray w R:=by
 refine callsIn_of_wp_marks hf hb trivial ?_ rfl;have YU:HW Fs w0 (hU st f ⟨fd.ntmps,[]⟩ (fI 0 az)) ρ w:=⟨hw.lens,zt az 0 jM,hw.gP,hw.o9,hw.kn,hw.own,hw.same,rfl⟩;refine wpIn_mono (yj none c _ _ ρ L _ w hv YU (Aw az fd.ntmps) ⟨fun l r fn nt fr ps x y fd hm=>hrf l r fn nt fr ps x y fd (by simpa using hm),rfl⟩) ?_;have key: ∀a' w',At P C al Fs w0 n (.call fn nt fr d fd::k) ρ L a' w'→LeavesInM (FW none) 0 P fd a'.tmps R a'.defers .returning w':=by
  intro a' w' ⟨m,hm,d_,bJ,L',h1,h2,h3,h4,h5⟩;cases m with
  | zero=>exact h5.elim
  | succ m=>
   simp only [run]at h5;split at h5
   case h_2=>exact h5.elim
   rename_i Gb KL;have Qj:Gb.fr=d_.fr∧Gb.nt=d_.nt∧Gb.a_=d_.a_:=by
    unfold ou at KL;rw [aus]at KL;obtain⟨nh,_,rfl⟩:=KL;exact⟨rfl,rfl,rfl⟩
   split at h5
   ·rename_i v hv;split at h5
    ·rename_i hc;simp only [ai]at hc;refine oV KL h3 h4 fun w2 D0=>?_
     refine⟨_,qm hT D0 (nt:=d_.nt) (by rw [Qj.1];exact h4) hv,hR v w2 m Gb bJ L' (by omega) h1 h2 D0 hc.2 hc.1 h5⟩
    ·exact h5.elim
   ·exact h5.elim
 intro e a' w' hq;obtain⟨k',hk,dH⟩:=hq;cases e with
 | normal=>cases hk;exact key a' w' dH
 | ret=>cases hk;exact key a' w' dH
 | exit id=>cases hk
 | goto l=>cases hk
 | panic l=>cases hk
 | outgrown=>cases hk
theorem vK{st:St}{d:Option Nat}(h:rP st d=true): ∀x,d=some x→x<st.nt.n:=by
 intro x hx;subst hx;simpa [rP,auF] using h
theorem uN{hp:List Ck}{l i r:Nat}{s:RS}{j:Jump}(h:recAt hp l=some (i,r,s,j)):hp[i]? =some (.my l r s j):=by
 unfold recAt at h;split at h
 ·rename_i q hq;split at h
  ·rename_i l' r' s' j' hg;cases h;rw [List.findIdx?_eq_some_iff_getElem]at hq;obtain⟨cF,hd,_⟩:=hq;rw [auU cF,auq]at hg;rw [hg]at hd;simp only [Ck.isRec,beq_iff_eq]at hd;subst hd;rw [auU cF,hg]
  ·cases h
 ·cases h
theorem wC{l:Nat}: ∀{k:List KI} {r fn:Nat} {nt:NT} {fr:List (Nat×SV)} {ps:Array Tmp} {x y:Code},sZ l k=some (r,fn,nt,fr,ps,x,y)→∃fd,KI.rf l r fn nt fr ps x y fd∈k
 | [],_,_,_,_,_,_,_,h=>by cases h
 | i::k,r,fn,nt,fr,ps,x,y,h=>by
  have go:sZ l k=some (r,fn,nt,fr,ps,x,y)→∃fd,KI.rf l r fn nt fr ps x y fd∈i::k:=fun h'=>by
   obtain⟨fd,hm⟩:=wC h';exact⟨fd,auw _ hm⟩
  cases i with
  | rf l' r' fn' zH Iu ps' x' y' fd'=>
   unfold sZ at h;split at h
   ·rename_i hl;rw [beq_iff_eq]at hl;cases h;subst hl;exact⟨fd',aur⟩
   ·exact go h
  | _=>exact go h
theorem ni{st:St}{ρ:Env}{w:World}(hw:HW Fs w0 st ρ w){l i r:Nat}{s:RS}{j:Jump}(h:recAt st.hp l=some (i,r,s,j)):
  w.heap[ρ.bv.getD l 0]? =some (.loop {ρ.lr.getD r jA with state:=s.st,pending:=j.code}):=by
 obtain⟨S,hS⟩:=hw.own;have hi:=uN h;have cF:=(aup.1 hi).1;exact(hS.at_ i ((Ck.my l r s j).den ρ) (by rw [auu (by simpa using cF),List.getElem?_map,hi];rfl)).1.2
theorem D1{st:St}{ρ:Env}{w:World}(hw:HW Fs w0 st ρ w){l i r:Nat}{s:RS}{j:Jump}(h:recAt st.hp l=some (i,r,s,j))(s':RS)(j':Jump):
  HW Fs w0 {st with hp:=st.hp.set i (.my l r s' j')} ρ (w.putObj (ρ.bv.getD l 0) (.loop {ρ.lr.getD r jA with state:=s'.st,pending:=j'.code})):=by
 have hi:=uN h;have hb:=ni hw h;have Ui:ρ.bv.getD l 0<w.heap.size:=(auy.1 hb).1;have cF:=(aup.1 hi).1;obtain⟨S,hS⟩:=hw.own;have MR:(st.hp.map (Ck.den ρ))[i]? =some ((Ck.my l r s j).den ρ):=by rw [List.getElem?_map,hi];rfl
 have dH:=hS.at_ i _ (by rw [auu (by simpa using cF)];exact MR);have jM:=auo.1 hw.gP _ (auM hi);refine⟨hw.lens,hw.mj,auo.2 fun q hq=>?_,hw.o9,hw.kn,?_,hw.same.trans ⟨rfl,rfl,rfl,by simp⟩,hw.ng⟩
 ·rcases au1 hq with hq | rfl
  ·exact auo.1 hw.gP q hq
  ·exact jM
 ·show bz ((st.hp.set i (.my l r s' j')).map (Ck.den ρ)++Fs) _;rw [List.map_set];refine bz.step hS i _ _ MR rfl (S i) (by simp) (fun k hk hn=>World.putObj_heap_other (fun e=>hn ((dH.1.1 k).2 e))) ⟨dH.1.1,?_⟩ (fun k hk=> .inl hk);exact World.putObj_heap_same Ui
theorem wD{ρ:Env}: ∀{l:List (Nat×SV)} {st m5:St} {a:Act} {w:World},mA st l=some m5→HW Fs w0 st ρ w→HA st.fr st.nt ρ a→
  HW Fs w0 m5 ρ w∧HA m5.fr m5.nt ρ (l.foldl (fun a x=>a.put (some x.1) (x.2.val ρ)) a)∧m5.a_=st.a_∧m5.hp=st.hp
 | [],st,m5,a,w,h,hw,ha=>by
  simp only [mA,auq]at h;subst h;exact⟨hw,ha,rfl,rfl⟩
 | (d,v)::r,st,m5,a,w,h,hw,ha=>by
  unfold mA at h;split at h
  ·rename_i hc;rw [ai]at hc;have w9:=ha.put (d:=some d) (v:=v) (u:=v.val ρ) (vK hc.1) rfl st rfl;have e:=fb st (some d) v;obtain⟨h1,h2,h3,h4⟩:=wD h (hw.put hc.2) (by rw [e.2.2.2.1];exact w9);exact⟨h1,h2,h3.trans e.2.1,h4.trans e.1⟩
  ·cases h
theorem OV{ρ:Env}{a:Act}{w:World}{fr:List (Nat×SV)}{nt:NT}(ha:HA fr nt ρ a){o:Oper}{l:Nat}{az:List SV}(h:Tn (look fr) o=some (l,az)){r:Loop}(hb:w.heap[ρ.bv.getD l 0]? =some (.loop r))
  (hs:az.length=r.params.size):
  (execOp a.eval o).run P w= .ok (.round (ρ.bv.getD l 0) r.fn ((r.params.zip (SV.bH ρ az).toArray).foldl (fun tmps (t,a)=>tmps.setIfInBounds t a) r.tmps) r.assign r.body) w∧∀c,o.op≠ .defer c:=by
 unfold Tn at h;split at h
 ·rename_i fop args argTypes C4;split at h
  ·rename_i l' Yp h1 h2;cases h;have e1:=eH ha.eval h1;have e2:=hJ ha.eval _ _ h2;have e3:Array.map a.eval args=(SV.bH ρ az).toArray:=auY (by rw [Array.toList_map,e2]);refine⟨?_,fun c hc=>by rw [C4]at hc;cases hc⟩;have hlen: ∀l:List SV,(SV.bH ρ l).length=l.length:=by
    intro l;induction l with
    | nil=>rfl
    | cons x r ih=>simp [SV.bH,ih]
   have hy:=run_yield (P:=P) (args:=(SV.bH ρ az).toArray) hb (by simp [hlen,hs]);simp only [execOp,C4,resolve,e1,SV.val,Deferred.ofValue,auC,auI,aut,invoke,e3,Array.empty_append];exact hy
  ·cases h
 ·cases h
theorem Ko{ρ:Env}(ps:Array Tmp)(az:List SV)(t:Array Value):
  (ps.toList.zip az).foldl (fun a x=>a.put (some x.1) (x.2.val ρ)) ({tmps:=t,defers:=[]}:Act)=
   {tmps:=(ps.zip (SV.bH ρ az).toArray).foldl (fun tmps (t,a)=>tmps.setIfInBounds t a) t,defers:=[]}:=by
 rw [←Array.foldl_toList,Array.toList_zip];generalize ps.toList=l
 induction l generalizing az t with
 | nil=>rfl
 | cons d l ih=>
  cases az with
  | nil=>rfl
  | cons v az=>
   simp only [List.zip_cons_cons,List.foldl_cons,SV.bH];exact ih az _
theorem Gi(hT:bB P C.T=true)(B5:aJ P C.FT)(D2:gW P C){n:Nat}(yj: ∀m,m<n→rQ P C al Fs w0 m)(O4: ∀m,m<n→uo P C al Fs w0 m):uo P C al Fs w0 n:=by
 intro ro all r k st ρ L a w hv hw ha ik;cases n with
 | zero=>exact hv.elim
 | succ n=>
  have hn:n<n+1:=Nat.lt_succ_self n;have up: ∀{e:Exit} {a:Act} {w:World} {bJ:Env} {L':Nat→LC},Env.Le ρ bJ→(∀j,j<nl k→L' j=L j)→QK P C al Fs w0 n k bJ L' e a w→QK P C al Fs w0 (n+1) k ρ L e a w:=fun h1 h2 hq=>hq.mono (au4 n) h1 h2
  cases r with
  | nil=>
   simp only [run]at hv;exact QK.here hn rfl hv hw ha
  | cons o r=>
   simp only [run]at hv;split at hv
   case isFalse=>exact hv.elim
   rename_i yX;have hd:=vK yX;have hd0:=hd;have next: ∀{m:Nat} (d_:St) (v:SV) (u:Value) (bJ:Env) (L':Nat→LC) (w':World),m≤n→Env.Le ρ bJ→(∀j,j<nl k→L' j=L j)→d_.fr=st.fr→d_.nt=st.nt→HW Fs w0 d_ bJ w'→v.sc d_.a_=true→u=v.val bJ→
     VC P al (run C m (.ops all r::k) (d_.put o.dst v)) bJ L'→wpListIn (FW ro) 0 P all (QK P C al Fs w0 (n+1) k ρ L) r (a.put o.dst u) w':=by
    intro m d_ v u bJ L' w' hm h1 h2 XD O3 h3 h4 h5 h6;have fA:=Env.Le.e9 hw.lens h1;have w9:=(ha.more hw.mj hw.ng fA).put (d:=o.dst) (v:=v) (u:=u) hd h5 d_ XD;have:=O4 m (by omega) ro all r k _ bJ L' (a.put o.dst u) w' h6 (h3.put h4) (by rw [(fb d_ o.dst v).2.2.2.1,O3];exact w9) (ik.le h1);exact gH (fun e a w hq=>hq.mono (by omega) h1 h2) this
   have B3: ∀{m:Nat} (v:SV) (u:Value),m≤n→v.sc st.a_=true→u=v.val ρ→VC P al (run C m (.ops all r::k) (st.put o.dst v)) ρ L→wpListIn (FW ro) 0 P all (QK P C al Fs w0 (n+1) k ρ L) r (a.put o.dst u) w:=
    fun v u hm h1 h2 h3=>next st v u ρ L w hm (Env.Le.refl _) (fun _ _=>rfl) rfl rfl hw h1 h2 h3
   unfold wpListIn;split at hv
   ·exact hv.elim
   ·
    rename_i hg;have nG:=lS ha hw.kn hg;simp only [oU,BE.den]at nG;rw [if_neg (by rw [nG];simp)];exact⟨fun _ _=>trivial,B3 .undef undef (Nat.le_refl _) rfl rfl hv⟩
   ·
    rename_i c eV hg;have nG:=lS ha hw.kn hg;simp only [oU]at nG;split at hv
    case isFalse=>exact hv.elim
    rename_i nU;have fork:VC P al (.fork c (run C n (.ops all ({o with guard:=none}::r)::k) (st.Kb c)) (run C n (.ops all r::k) ((st.tj c).put o.dst .undef))) ρ L→
      (if Region.wanted o (yielded all a.tmps)=true then o.wpIn (FW ro) 0 P a w (wpListIn (FW ro) 0 P all (QK P C al Fs w0 (n+1) k ρ L) r) (QK P C al Fs w0 (n+1) k ρ L)
       else(∀f,o.about P w a.eval=some f→(FW ro).fn f)∧wpListIn (FW ro) 0 P all (QK P C al Fs w0 (n+1) k ρ L) r (a.put o.dst undef) w):=by
     intro hf;simp only [VC,bt]at hf;rw [nG];cases hd:c.den ρ with
     | true=>
      rw [if_pos rfl];have zp:HW Fs w0 (st.Kb c) ρ w:=by
       have:=hw.know ((BE.bQ ρ c).1 hd) nU;refine⟨this.lens,auo.2 fun x hx=>?_,this.gP,this.o9,this.kn,this.own,this.same,this.ng⟩;obtain⟨y,hy,rfl⟩:=auL.1 hx;exact SV.abK (auo.1 hw.mj y hy)
      have h1:=O4 n hn ro all ({o with guard:=none}::r) k (st.Kb c) ρ L a w (hf.1 ((BE.bQ ρ c).1 hd)) zp (HA.Kb ha hd) ik;unfold wpListIn at h1;rw [if_pos (by simp [Region.wanted])]at h1;exact CJ (Oper.An (fun a w h=>gH (fun e a w hq=>up (Env.Le.refl _) (fun _ _=>rfl) hq) h) (fun e a w hq=>up (Env.Le.refl _) (fun _ _=>rfl) hq) h1)
     | false=>
      rw [if_neg (by simp)];have D0:HW Fs w0 (st.tj c) ρ w:=by
       have:=hw.know (b:=j5 c) (by rw [←BE.bQ,dT,hd];rfl) (Fo nU);refine⟨this.lens,auo.2 fun x hx=>?_,this.gP,this.o9,this.kn,this.own,this.same,this.ng⟩;obtain⟨y,hy,rfl⟩:=auL.1 hx;exact SV.Xq (auo.1 hw.mj y hy)
      have ha2:=(HA.tj ha hd).put (d:=o.dst) (v:= .undef) (u:=undef) hd0 rfl (st.tj c) rfl;have:=O4 n hn ro all r k _ ρ L (a.put o.dst undef) w (hf.2 fun h=>by rw [←BE.bQ,hd]at h;cases h) (D0.put rfl) (by rw [(fb (st.tj c) o.dst .undef).2.2.2.1];exact ha2) ik;exact⟨fun _ _=>trivial,gH (fun e a w hq=>hq.mono (by omega) (Env.Le.refl _) fun _ _=>rfl) this⟩
    split at hv
    ·rename_i res Ga;obtain⟨F8,MS⟩:=mQ Ga;split at hv
     ·rename_i US;obtain⟨cd,hv⟩:=jx hw.kn hv;simp only [oU]at cd;rw [nG];have jM:=MS;simp only [iC.sc,ai,US,Ar.grow]at jM;cases hd:c.den ρ with
      | true=>
       rw [if_pos rfl];obtain⟨S,hS⟩:=hw.own;have hD:=rO (P:=P) hT (Env.ok ρ) (ha.w_ hw.kn (g:=some c) hd) F8 (Au S hS _) (cd hd) hw.lens.b;unfold Did at hD;rw [US]at hD;refine ot (xe F8) (.inl hD) ?_;refine B3 (.opt c res.val) _ (Nat.le_refl _) ?_ ?_ hv
       ·simp only [SV.sc,ai];exact⟨nU,jM.1.1⟩
       ·simp only [SV.val,hd,if_true]
      | false=>
       rw [if_neg (by simp)];refine⟨fun _ _=>trivial,B3 (.opt c res.val) undef (Nat.le_refl _) ?_ ?_ hv⟩
       ·simp only [SV.sc,ai];exact⟨nU,jM.1.1⟩
       ·simp [SV.val,hd]
     ·exact fork hv
    ·exact fork hv
   ·
    rename_i hg;have nG:=lS ha hw.kn hg;simp only [oU]at nG;rw [if_pos nG];split at hv
    ·rename_i res Ga;obtain⟨F8,MS⟩:=mQ Ga;obtain⟨cd,hv⟩:=jx hw.kn hv;have cd:=cd rfl;obtain⟨S,hS⟩:=hw.own;have hD:=rO (P:=P) hT (Env.ok ρ) (ha.w_ hw.kn (g:=none) rfl) F8 (Au S hS _) cd hw.lens.b;have s7:VC P al (afR res.iD (run C n (.ops all r::k) (({dY st res.iD with known:=more res.vcs st.known}:St).put o.dst res.val))) ρ L:=by
      cases he:res.iD<;>rw [he]at hv<;>exact hv
     obtain⟨u,w',bJ,iR,hle,YU,hu,amk,Ig⟩:=TA hw hS hD MS cd s7;refine ot (xe F8) iR ?_;obtain⟨e1,e2,e3,e4,e5⟩:=CH st res.iD;exact next {dY st res.iD with known:=more res.vcs st.known} res.val u bJ L w' (Nat.le_refl _) hle (fun _ _=>rfl) e1 e2 YU (by rw [show({dY st res.iD with known:=more res.vcs st.known}:St).a_=(dY st res.iD).a_ from rfl,e5];exact amk) hu Ig
    ·split at hv
     ·rename_i f az rR;split at hv
      ·exact hv.elim
      ·rename_i fd Ax;have DZ:=List.mem_of_find?_eq_some Ax;have Mx:=List.find?_some Ax;simp only [beq_iff_eq]at Mx;obtain⟨hf,Ge⟩:=B5 _ DZ;simp only at hf Ge;rw [Mx]at hf;split at hv
       ·split at hv
        case h_2=>exact hv.elim
        rename_i ca hca;split at hv
        case isFalse=>exact hv.elim
        rename_i jM;simp only [ai,decide_eq_true_eq]at jM;obtain⟨⟨⟨kZ,yY⟩,kW⟩,Fv⟩:=jM;have cF: ∀i∈ca.use az st.hp,i<st.hp.length:=fun i hi=>by simpa [auF] using auo.1 kW i hi
        simp only [VC]at hv;obtain⟨post,B4,TJ⟩:=hv;have du:=bz.vF (acc:=[]) (use:=ca.use az st.hp) (by simpa using hw.own) Fv (by simpa using cF);have Kn:((ca.use az st.hp).map fun i=>st.hp.getD i .emp).map (Ck.den ρ)=(ca.use az st.hp).map (fun i=>(st.hp.map (Ck.den ρ)).getD i HP.emp):=by
         rw [List.map_map];refine List.map_congr_left fun i hi=>?_
         have:=cF i hi;simp [this]
        rw [List.nil_append,←Kn]at du;obtain⟨v,hs,w',hR,hp,BZ,BY⟩:=B4 w _ du;obtain⟨iR,iy⟩:=Xr (P:=P) (w:=w) ha rR;have hx:=TJ v hs hp;rw [lG]at hx;obtain⟨e2,rM,rfl,rfl,Ig⟩:=hx;have hle:=Env.iS ρ e2;have fA:=Env.Le.e9 hw.lens hle;refine ot iy (.inl (iR.trans hR)) ?_;refine next {st with hp:=g9 st.hp (ca.use az st.hp) (ca.new st.a_ ((ca.use az st.hp).map fun i=>st.hp.getD i .emp)),a_:=st.a_.add ca.inc} (sX ca az st.hp st.a_) _ (ρ.ext e2) L w' (Nat.le_refl _) hle (fun _ _=>rfl) rfl rfl ?_ kZ rfl Ig;refine⟨hw.lens.ext rM,de (cG.lI _ _) hw.mj,?_,gg (cG.lI _ _) hw.o9,fun b hb=>?_,?_,hw.same.trans BY,dU (cG.lI _ _) hw.ng⟩
        ·exact nk _ _ rfl _ _ _ (jN (cG.lI _ _) hw.gP) yY
        ·exact(BE.i_ fA (auo.1 hw.o9 b hb)).1 (hw.kn b hb)
        ·have h1:=bz.mA (use:=ca.use az st.hp) BZ (fun i hi=>by rw [mO];simpa using cF i hi) fun _ _=> .inr trivial
         rw [←kr _ _ _ Fv,lF fA hw.gP]at h1;simp only [g9];rw [m_];exact h1
       ·rename_i c hb;obtain⟨iR,iy⟩:=TG (P:=P) (w:=w) ha rR hf Ge hb;refine⟨fun _ _=>trivial,?_⟩;rw [Oper.semAt_eq _ _ _ iy,iR,Oper.uponIn_enter];refine⟨fun h=>(by cases h),?_⟩;split at hv
        ·rename_i r0 aml;split at hv
         case isFalse=>exact hv.elim
         rename_i jM;simp only [ai,decide_eq_true_eq]at jM;obtain⟨⟨⟨kZ,yY⟩,kW⟩,Fv⟩:=jM;obtain⟨cd,hv⟩:=jx hw.kn hv;have cF: ∀i∈r0.use,i<st.hp.length:=fun i hi=>by simpa [auF] using auo.1 kW i hi
         have B4:=D2 f az st.hp r0 ρ aml (cd rfl);have du:=bz.vF (acc:=[]) (use:=r0.use) (by simpa using hw.own) Fv (by simpa using cF);have Kn:(r0.use.map fun i=>st.hp.getD i .emp).map (Ck.den ρ)=r0.use.map (fun i=>(st.hp.map (Ck.den ρ)).getD i HP.emp):=by
          rw [List.map_map];refine List.map_congr_left fun i hi=>?_
          have:=cF i hi;simp [this]
         rw [List.nil_append,←Kn]at du;refine Me ?_;have hc:=B4 w _ du;intro cs;obtain⟨e,w',Iu,hR,TL,hfn,Kp⟩:=hc cs;refine⟨e,w',Iu,?_,TL,hfn,Kp⟩;obtain⟨x,hs,rfl,⟨hx,rfl⟩,BZ,BY⟩:=hR;subst hx;refine next {st with hp:=g9 st.hp r0.use r0.new} r0.val _ ρ L w' (Nat.le_refl _) (Env.Le.refl _) (fun _ _=>rfl) rfl rfl ⟨hw.lens,hw.mj,?_,hw.o9,hw.kn,?_,hw.same.trans BY,hw.ng⟩ kZ rfl hv
         ·exact nk _ _ rfl _ _ _ hw.gP yY
         ·have h1:=bz.mA (use:=r0.use) BZ (fun i hi=>by rw [mO];simpa using cF i hi) fun _ _=> .inr trivial
          rw [←kr _ _ _ Fv]at h1;simp only [g9];rw [m_];exact h1
        split at hv
        ·rename_i ca hca;split at hv
         case isFalse=>exact hv.elim
         rename_i jM;simp only [ai,decide_eq_true_eq]at jM;obtain⟨⟨⟨kZ,yY⟩,kW⟩,Fv⟩:=jM;have cF: ∀i∈ca.use az st.hp,i<st.hp.length:=fun i hi=>by simpa [auF] using auo.1 kW i hi
         simp only [VC]at hv;obtain⟨post,B4,TJ⟩:=hv;have du:=bz.vF (acc:=[]) (use:=ca.use az st.hp) (by simpa using hw.own) Fv (by simpa using cF);have Kn:((ca.use az st.hp).map fun i=>st.hp.getD i .emp).map (Ck.den ρ)=(ca.use az st.hp).map (fun i=>(st.hp.map (Ck.den ρ)).getD i HP.emp):=by
          rw [List.map_map];refine List.map_congr_left fun i hi=>?_
          have:=cF i hi;simp [this]
         rw [List.nil_append,←Kn]at du;refine Me ?_;have hc:=B4 w _ du;intro cs;obtain⟨e,w',Iu,hR,TL,hfn,Kp⟩:=hc cs;refine⟨e,w',Iu,?_,TL,hfn,Kp⟩;obtain⟨v,hs,rfl,hp,BZ,BY⟩:=hR;have hx:=TJ v hs hp;rw [lG]at hx;obtain⟨e2,rM,rfl,rfl,Ig⟩:=hx;have hle:=Env.iS ρ e2;have fA:=Env.Le.e9 hw.lens hle;refine next {st with hp:=g9 st.hp (ca.use az st.hp) (ca.new st.a_ ((ca.use az st.hp).map fun i=>st.hp.getD i .emp)),a_:=st.a_.add ca.inc} (sX ca az st.hp st.a_) _ (ρ.ext e2) L w' (Nat.le_refl _) hle (fun _ _=>rfl) rfl rfl ?_ kZ rfl Ig;refine⟨hw.lens.ext rM,de (cG.lI _ _) hw.mj,?_,gg (cG.lI _ _) hw.o9,fun b hb=>?_,?_,hw.same.trans BY,dU (cG.lI _ _) hw.ng⟩
         ·exact nk _ _ rfl _ _ _ (jN (cG.lI _ _) hw.gP) yY
         ·exact(BE.i_ fA (auo.1 hw.o9 b hb)).1 (hw.kn b hb)
         ·have h1:=bz.mA (use:=ca.use az st.hp) BZ (fun i hi=>by rw [mO];simpa using cF i hi) fun _ _=> .inr trivial
          rw [←kr _ _ _ Fv,lF fA hw.gP]at h1;simp only [g9];rw [m_];exact h1
        ·split at hv
         case isFalse=>exact hv.elim
         rename_i jM;refine TH (H8 hT (yj n hn) hf hb hv jM hw (fun l r fn nt fr ps x y fd hm=>ik.rf l r fn nt fr ps x y fd (by simpa using hm)) ?_);intro v w' m d_ bJ L' hm h1 h2 h3 h4 h5 h6;have eV:=iG.le hw.lens h3.lens h1;have KH:HW Fs w0 (hU d_ st.fn st.nt st.fr) bJ w':=⟨h3.lens,de eV hw.mj,h3.gP,h3.o9,h3.kn,h3.own,h3.same,dU eV hw.ng⟩;exact next (hU d_ st.fn st.nt st.fr) v _ bJ L' w' (Nat.le_of_lt hm) h1 h2 rfl rfl KH h4 rfl h6
     ·split at hv
      case h_2=>exact hv.elim
      rename_i l az hyl;split at hv
      case h_2=>exact hv.elim
      rename_i rr fn nt fr ps x y i' r' s' j' Ax IY;split at hv
      case isFalse=>exact hv.elim
      rename_i hc;rw [ai,decide_eq_true_eq,beq_iff_eq]at hc;obtain⟨rfl,hlen⟩:=hc;split at hv
      case h_2=>exact hv.elim
      rename_i m5 lY;obtain⟨fd,DZ⟩:=wC Ax;obtain⟨yl,c0,k1,k2,k3,k4,k5,k6,k7,k8⟩:=ik.rf l rr fn nt fr ps x y fd DZ;have afV:=Env.Le.e9 k1 k2;have hlr:yl.lr.getD rr jA=ρ.lr.getD rr jA:=afV.r _ k4;rw [hlr]at k5 k6 k7 k8;have mw:=ni hw IY;obtain⟨iR,iy⟩:=OV (P:=P) ha hyl mw (by rw [hlen,←k5]);refine⟨fun _ _=>trivial,?_⟩;rw [Oper.semAt_eq _ _ _ iy,iR,Oper.uponIn_round];refine⟨fun h=>(by cases h),?_⟩;refine roundIn_of_wpIn trivial ?_;simp only [k5,k6,k7];have zp:HW Fs w0 (hU st fn ⟨nt.n,[]⟩ fr) ρ w:=⟨hw.lens,de (iG.le k1 hw.lens k2) k3,hw.gP,hw.o9,hw.kn,hw.own,hw.same,rfl⟩;have IZ:HA fr ⟨nt.n,[]⟩ ρ {tmps:=(ρ.lr.getD rr jA).tmps,defers:=[]}:=k8.more k3 rfl afV;obtain⟨D0,ha2,an7,_⟩:=wD lY zp IZ;rw [Ko]at ha2;have ML:FW ro=FW ro:=rfl;have hlb:l<st.a_.b:=by
       have:=auo.1 hw.gP _ (auM (uN IY));simp only [Ck.sc,ai,auF]at this;exact this.1
      have Gf:DX ρ (.begin l:: .code y:: .round l st.fn st.nt st.fr o.dst:: .ops all r::k) (some (ρ.bv.getD l 0)):=
       ⟨fun l r fn nt fr ps x y fd hm=>ik.rf l r fn nt fr ps x y fd (by simpa using hm),⟨ρ,st.a_,hw.lens,Env.Le.refl _,hlb,rfl⟩⟩
      refine wpIn_mono (yj n hn (some (ρ.bv.getD l 0)) x _ m5 ρ L _ w hv D0 ha2 Gf) ?_;intro e a1 w1 hq;obtain⟨k',kY,m,hm,Gb,KK,L2,g1,g2,g3,g4,g5⟩:=hq;cases e with
      | normal=>
       cases kY;cases m with
       | zero=>exact g5.elim
       | succ m=>
        simp only [run]at g5;split at g5
        case h_2=>exact g5.elim
        rename_i i2 r2 j2 Yq;have Yr:=ni g3 Yq;have hbv:KK.bv.getD l 0=ρ.bv.getD l 0:=((Env.Le.e9 hw.lens g1).b l hlb).symm;rw [hbv]at Yr;refine⟨_,run_beginRound Yr rfl,?_⟩;have KH:=D1 g3 Yq .busy j2;rw [hbv]at KH;cases m with
        | zero=>exact g5.elim
        | succ m=>
        have afW:DX KK (.round l st.fn st.nt st.fr o.dst:: .ops all r::k) (some (ρ.bv.getD l 0)):=
         ⟨fun l r fn nt fr ps x y fd hm=>(ik.le g1).rf l r fn nt fr ps x y fd (by simpa using hm),⟨ρ,st.a_,hw.lens,g1,hlb,rfl⟩⟩
        refine wpIn_mono (yj (m+1) (by omega) (some (ρ.bv.getD l 0)) y _ _ KK L2 a1 _ g5 KH g4 afW) ?_;have fin: ∀(j:Jump) (a3:Act) (w3:World),At P C al Fs w0 (m+1) (.nE l j st.fn st.nt st.fr o.dst:: .ops all r::k) KK L2 a3 w3→
          ∃v w',(Instr.endRound (ρ.bv.getD l 0) j.code).run P w3= .ok v w'∧wpListIn (FW ro) 0 P all (QK P C al Fs w0 (n+1) k ρ L) r (a.put o.dst v) w':=by
         intro j a3 w3 ⟨m3,hm3,st3,ρ3,L3,q1,q2,q3,q4,q5⟩;cases m3 with
         | zero=>exact q5.elim
         | succ m3=>
          simp only [run]at q5;split at q5
          case h_2=>exact q5.elim
          rename_i i3 r3 s3 j3 Ys;split at q5
          case isFalse=>exact q5.elim
          rename_i asf;have OU:=g1.trans q1;have Yt:=ni q3 Ys;have afY:ρ3.bv.getD l 0=ρ.bv.getD l 0:=((Env.Le.e9 hw.lens OU).b l hlb).symm;rw [afY]at Yt;refine⟨_,_,run_endRound j.code Yt,?_⟩;have Qk:=D1 q3 Ys (if j= .none then .ready else .done) j;rw [afY]at Qk;have eV:=iG.le hw.lens q3.lens OU;have hw5:HW Fs w0 (hU {st3 with hp:=st3.hp.set i3 (.my l r3 (if j= .none then .ready else .done) j)} st.fn st.nt st.fr) ρ3 _:=⟨Qk.lens,de eV hw.mj,Qk.gP,Qk.o9,Qk.kn,Qk.own,Qk.same,dU eV hw.ng⟩;have:=next (hU {st3 with hp:=st3.hp.set i3 (.my l r3 (if j= .none then .ready else .done) j)} st.fn st.nt st.fr) (.bool (.lit (decide (j= .none)))) (.bool j.code.isNone) ρ3 L3 _ (by omega) OU
           (fun j hj=>(q2 j hj).trans (g2 j hj)) rfl rfl hw5 rfl (by cases j<;>rfl) q5
          cases j<;>exact this
        intro e3 a3 w3 hq3;obtain⟨k3',hk3,abM⟩:=hq3;cases e3 with
        | normal=>
         cases hk3;refine fin .none a3 w3 ?_;obtain⟨m3,hm3,st3,ρ3,L3,q1,q2,q3,q4,q5⟩:=abM;cases m3 with
         | zero=>exact q5.elim
         | succ m3=>exact⟨m3,by omega,st3,ρ3,L3,q1,q2,q3,q4,q5⟩
        | ret=>cases hk3;exact fin .ret a3 w3 abM
        | exit id=>cases hk3;exact fin (.exit id) a3 w3 abM
        | goto l=>cases hk3
        | panic l=>cases hk3
        | outgrown=>cases hk3
      | exit id=>cases kY
      | ret=>cases kY
      | goto l=>cases kY
      | panic l=>cases kY
      | outgrown=>cases kY
end
end Go.RX
