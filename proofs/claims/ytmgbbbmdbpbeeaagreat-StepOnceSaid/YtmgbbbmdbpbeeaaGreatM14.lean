/- Executor. -/
import Derived.Test.YtmgbbbmdbpbeeaaGreatRxX
import Derived.RangeFuncNested
open Array renaming getD_eq_getD_getElem? → ai7, getElem?_eq_some_iff → aiY
open Bool renaming and_eq_true → ai
open Go.Region renaming binds → ajK
open Go.Result renaming andThen_ok → aiU
open Go.Sem renaming run_bind → ai2, run_pure → ajd
open List renaming all_eq_true → aiM, getElem?_append_left → aiR, getElem?_eq_getElem → ajk, getElem?_eq_some_iff → aiN, map_congr_left → ajq, map_cons → ajb, mem_cons_of_mem → aiV, mem_cons_self → aiQ, mem_map → ai_, mem_of_getElem? → ajn, mem_or_eq_of_mem_set → ajf, mem_range → ai8
open Nat renaming blt_eq → ai3, le_succ → ajC
open Option renaming map_eq_some_iff → aiO
open Option.some renaming injEq → aiP
namespace Go.RX
def fg(P:Program)(C:Ctx):Prop:= ∀f az hp r (ρ:Env),BU C f az hp=some r→(∀b∈r.vcs,b.prop ρ)→
 ax P f (SV.bH ρ az) ((r.use.map fun i=>hp.getD i .emp).map (Ck.den ρ)) fun x hs=>x=r.val.val ρ∧hs=r.new.map (Ck.den ρ)
theorem fg.none{P:Program}{C:Ctx}(h:C.pure=fun _=>Option.none):fg P C:=by
 intro f az hp r ρ hp;simp [BU,h]at hp
def aR(P:Program)(FT:List (Nat×Func)):Prop:= ∀x∈FT,P.funcs[x.1]? =some x.2∧(x.2.name== "runtime.NumGoroutine")=false
section
variable {P:Program} {C:Ctx} {ao:Value→List HP→Prop} {Fs:List HP} {w0:World}
theorem vP{ρ:Env}(a b:List SV):SV.bH ρ (a++b)=SV.bH ρ a++SV.bH ρ b:=by
 induction a with
 | nil=>rfl
 | cons x r ih=>simp only [List.cons_append,SV.bH,ih]
theorem Eh{ρ:Env}: ∀(l:List SV) (i:Nat),(SV.bH ρ l)[i]? =(l[i]?).map (SV.val ρ)
 | [],i=>by simp [SV.bH]
 | x::r,0=>by simp [SV.bH]
 | x::r,i+1=>by simp only [SV.bH,List.getElem?_cons_succ];exact Eh r i
theorem Bb{ρ:Env}: ∀(l:List SV) (n s:Nat) (v:SV),look (dX n l) s=some v→n≤s∧l[s - n]? =some v
 | [],n,s,v,h=>by cases h
 | x::r,n,s,v,h=>by
  unfold dX look at h;split at h
  ·rename_i hs;rw [beq_iff_eq]at hs;subst hs;cases h;exact⟨Nat.le_refl _,by simp⟩
  ·rename_i hs;obtain⟨h1,h2⟩:=Bb (ρ:=ρ) r (n+1) s v h;refine⟨by omega,?_⟩;rw [show s - n=(s - (n+1))+1 by omega,List.getElem?_cons_succ];exact h2
theorem xj{c:cz}: ∀(l:List SV) (n:Nat),SV.o6 c l=true→kZ c (dX n l)=true
 | [],n,_=>rfl
 | x::r,n,h=>by
  simp only [SV.o6,ai]at h;simp only [dX,kZ,List.all_cons,ai];exact⟨h.1,xj r (n+1) h.2⟩
theorem yR{ρ:Env}(az:List SV)(nt:Nat):HA (dX 0 az) ⟨nt,[]⟩ ρ {tmps:=(SV.bH ρ az).toArray++Array.replicate (nt - (SV.bH ρ az).toArray.size) undef,defers:=[]}:=by
 refine⟨rfl,by simp;omega,fun s v hs=>?_⟩;obtain⟨_,h2⟩:=Bb (ρ:=ρ) az 0 s v hs;rw [Nat.sub_zero]at h2;have h3:(SV.bH ρ az)[s]? =some (v.val ρ):=by rw [Eh,h2];rfl
 rw [ai7,Array.getElem?_append_left (by simpa using (aiN.1 h3).1)];simp [h3]
theorem Nq{ρ:Env}{a:Act}{w:World}{fr:List (Nat×SV)}{nt:NT}(ha:HA fr nt ρ a){o:Oper}{f:Nat}{az:List SV}(h:xO (look fr) o=some (f,az))
  {fd:Func} (hf:P.funcs[f]? =some fd) (hn:(fd.name== "runtime.NumGoroutine")=false) {c:Code} (hb:fd.body=some c):
  (execOp a.eval o).run P w= .ok (.enter f (SV.bH ρ az).toArray) w∧∀c,o.op≠ .defer c:=by
 unfold xO at h;split at h
 ·rename_i fop args argTypes Bc;split at h
  ·rename_i f' jK as0 h1 h2;cases h;have e1:=eJ ha.eval h1;have e2:=kA ha.eval _ _ h2;have e3:Array.map a.eval args=(SV.bH ρ as0).toArray:=Array.ext' (by rw [Array.toList_map,e2]);refine⟨?_,fun c hc=>by rw [Bc]at hc;cases hc⟩;simp only [execOp,Bc,resolve,e1,SV.val,Deferred.ofValue,ai2,ajd,aiU,invoke,callFunc,e3];have Nh: ¬fd.name= "runtime.NumGoroutine" :=by simpa using hn
   simp [hf,Nh,hb,vP]
  ·cases h
 ·cases h
theorem QW{ρ:Env}{a:Act}{w:World}{fr:List (Nat×SV)}{nt:NT}(ha:HA fr nt ρ a){o:Oper}{f:Nat}{az:List SV}(h:xO (look fr) o=some (f,az)):
  (execOp a.eval o).run P w=(callFunc f (SV.bH ρ az).toArray).run P w∧∀c,o.op≠ .defer c:=by
 unfold xO at h;split at h
 ·rename_i fop args argTypes Bc;split at h
  ·rename_i f' jK as0 h1 h2;cases h;have e1:=eJ ha.eval h1;have e2:=kA ha.eval _ _ h2;have e3:Array.map a.eval args=(SV.bH ρ as0).toArray:=Array.ext' (by rw [Array.toList_map,e2]);refine⟨?_,fun c hc=>by rw [Bc]at hc;cases hc⟩;simp only [execOp,Bc,resolve,e1,SV.val,Deferred.ofValue,ai2,ajd,aiU,invoke,e3,vP];simp
  ·cases h
 ·cases h
theorem I8{ro:Option Nat}{n:Nat}{f:FuncId}{args:Array Value}{w:World}{R:Ending→World→Prop}(h:Calls P f args w R):CallsIn (FW ro) n P f args w R:=by
 have:CallsIn Fence.wide n P f args w R:=callsIn_wide.2 h;exact this
theorem Nr{ro:Option Nat}{n:Nat}{f:FuncId}{args:Array Value}{w:World}{R:Ending→World→Prop}(h:CallsIn (FW none) n P f args w R):CallsIn (FW ro) n P f args w R:=h
theorem yS{fn:Func}{tmps:Array Value}{R:Ending→World→Prop}{u:FrameMode}(hu:u≠ .run){r:List Deferred}{i:Nat}: ∀{l:List Nat} {hs:List HP} {w:World},hs[i]? =some (kM l)→bz (hs++Fs) w→
  (∀w',bz (hs.set i HP.emp++Fs) w'→fZ w w'→LeavesInM (FW none) 0 P fn tmps R r u w')→LeavesInM (FW none) 0 P fn tmps R (l.map (fun b=>{target:= .collected b,args:= #[]})++r) u w
 | [],hs,w,hi,ho,hk=>by
  obtain⟨S,hS⟩:=ho;refine hk w ?_ (fZ.refl w);have dA:=hS.at_ i _ (by rw [aiR (aiN.1 hi).1];exact hi);exact bz.step hS i _ _ hi rfl (fun _=>False) (Nat.le_refl _) (fun _ _ _=>rfl) (fun k hk=>hk) (fun k hk=>hk.elim)
 | b::l,hs,w,hi,ho,hk=>by
  obtain⟨S,hS⟩:=ho;have bX:=(aiN.1 hi).1;have dA:=hS.at_ i _ (by rw [aiR bX];exact hi);obtain⟨⟨p1,p2,p3⟩,p4⟩:=dA;have kO:w.heap[b]? =some (.deferred (some [])):=p3 b aiQ;have hbn:=(List.nodup_cons.1 p2);refine⟨hu,.inl ⟨b,w.putObj b (.deferred none),rfl,run_takeDeferred kO,?_⟩⟩;have cI:bz (hs.set i (kM l)++Fs) (w.putObj b (.deferred none)):=by
   refine bz.step hS i _ _ hi rfl (fun k=>k∈l) (by simp [World.putObj]) (fun k hk hn=>?_) ⟨fun k=>Iff.rfl,hbn.2,fun k hk=>?_⟩ (fun k hk=> .inl ((p1 k).2 (aiV _ hk)))
   ·exact World.putObj_heap_other (fun e=>hn ((p1 k).2 (by rw [e];exact aiQ)))
   ·rw [World.putObj_heap_other (fun e=>hbn.1 (by rw [←e];exact hk))];exact p3 k (aiV _ hk)
  refine yS hu (l:=l) (hs:=hs.set i (kM l)) (by rw [List.getElem?_set_self bX]) cI fun w' I9 sA=>?_
  rw [List.set_set]at I9;exact hk w' I9 ((show fZ w (w.putObj b (.deferred none))from⟨rfl,rfl,rfl,by simp⟩).trans sA)
theorem pV{fn:Func}{tmps:Array Value}{R:Ending→World→Prop}{u:FrameMode}(hu:u≠ .run){ρ:Env}: ∀{ds:List MK} {hp lz:List Ck} {w:World},leave hp ds=some lz→bz (hp.map (Ck.den ρ)++Fs) w→
  (∀w',bz (lz.map (Ck.den ρ)++Fs) w'→fZ w w'→LeavesInM (FW none) 0 P fn tmps R [] u w')→LeavesInM (FW none) 0 P fn tmps R (marks ρ ds) u w
 | [],hp,lz,w,h,ho,hk=>by
  simp only [leave,aiP]at h;subst h;exact hk w ho (fZ.refl w)
 | .many d::ds,hp,lz,w,h,ho,hk=>by
  unfold leave at h;split at h
  ·rename_i i hi;rw [List.findIdx?_eq_some_iff_getElem]at hi;obtain⟨bX,hd,_⟩:=hi;have D_:hp[i]? =some (.qZ d):=by
    cases hc:hp[i]with
    | qZ b=>
     rw [hc]at hd;simp only [Ck.uu,beq_iff_eq]at hd;subst hd;rw [ajk bX,hc]
    | _=>rw [hc]at hd;simp [Ck.uu]at hd
   have KW:(hp.map (Ck.den ρ))[i]? =some (kM (pq (ρ.bv.getD d 0))):=by rw [List.getElem?_map,D_];rfl
   rw [show marks ρ (.many d::ds)=(pq (ρ.bv.getD d 0)).map (fun b=>{target:= .collected b,args:= #[]})++marks ρ ds by simp only [marks,List.flatMap_cons,MK.blocks,List.map_append]];refine yS hu KW ho fun w' I9 sA=>?_
   have ho2:bz ((hp.set i .emp).map (Ck.den ρ)++Fs) w':=by rw [List.map_set];exact I9
   exact pV hu h ho2 fun w2 h2 abB=>hk w2 h2 (sA.trans abB)
  ·cases h
 | .one d::ds,hp,lz,w,h,ho,hk=>by
  unfold leave at h;split at h
  ·rename_i i hi;rw [List.findIdx?_eq_some_iff_getElem]at hi;obtain⟨bX,hd,_⟩:=hi;have D_:hp[i]? =some (.Ki d):=by
    cases hc:hp[i]with
    | Ki b=>
     rw [hc]at hd;simp only [Ck.AM,beq_iff_eq]at hd;subst hd;rw [ajk bX,hc]
    | _=>rw [hc]at hd;simp [Ck.AM]at hd
   obtain⟨S,hS⟩:=ho;have KW:(hp.map (Ck.den ρ))[i]? =some (xH (ρ.bv.getD d 0)):=by rw [List.getElem?_map,D_];rfl
   have dA:=hS.at_ i _ (by rw [aiR (by simpa using bX)];exact KW);have kO:w.heap[ρ.bv.getD d 0]? =some (.deferred (some [])):=dA.1.2;have uf:ρ.bv.getD d 0<w.heap.size:=(aiY.1 kO).1;refine⟨hu,.inl ⟨ρ.bv.getD d 0,w.putObj (ρ.bv.getD d 0) (.deferred none),rfl,run_takeDeferred kO,?_⟩⟩;have cI:bz ((hp.set i .emp).map (Ck.den ρ)++Fs) (w.putObj (ρ.bv.getD d 0) (.deferred none)):=by
    rw [List.map_set];refine bz.step hS i _ _ KW rfl (fun _=>False) (by simp [World.putObj]) (fun k hk hn=>?_) (fun k hk=>hk) (fun k hk=>hk.elim);exact World.putObj_heap_other (fun e=>hn ((dA.1.1 k).2 e))
   refine pV hu h cI fun w' I9 sA=>hk w' I9 ((show fZ w (w.putObj (ρ.bv.getD d 0) (.deferred none))from⟨rfl,rfl,rfl,by simp⟩).trans sA)
  ·cases h
theorem yT{c:cz}: ∀{ds:List MK} {hp lz:List Ck},leave hp ds=some lz→hp.all (Ck.sc c)=true→lz.all (Ck.sc c)=true
 | [],hp,lz,h,hs=>by simp only [leave,aiP]at h;subst h;exact hs
 | .many d::ds,hp,lz,h,hs=>by
  unfold leave at h;split at h
  ·refine yT h (aiM.2 fun x hx=>?_);rcases ajf hx with hx | rfl
   ·exact aiM.1 hs x hx
   ·rfl
  ·cases h
 | .one d::ds,hp,lz,h,hs=>by
  unfold leave at h;split at h
  ·refine yT h (aiM.2 fun x hx=>?_);rcases ajf hx with hx | rfl
   ·exact aiM.1 hs x hx
   ·rfl
  ·cases h
theorem mZ{fd:Func}{R:Ending→World→Prop}{st cY:St}{ρ:Env}{a:Act}{w:World}(h:mA st=some cY)(hw:HW Fs w0 st ρ w)(ha:HA st.fr st.nt ρ a)
  (hk: ∀w',HW Fs w0 cY ρ w'→∃v,(results fd a.tmps).run P w'= .ok v w'∧R (.returned v) w'):LeavesInM (FW none) 0 P fd a.tmps R a.defers .returning w:=by
 unfold mA at h;rw [aiO]at h;obtain⟨lz,hl,rfl⟩:=h;rw [ha.defers];refine pV (by simp) hl hw.own fun w' ho sA=>?_
 obtain⟨v,h1,h2⟩:=hk w' ⟨hw.lens,hw.kI,yT hl hw.fU,hw.nh,hw.kn,ho,hw.same.trans sA,hw.lC⟩;exact⟨v,h1,h2⟩
theorem Ei(hT:bD P C.T=true){n:Nat}(vQ:pW P C ao Fs w0 n){c:Code}{fd:Func}{f:Nat}(hf:P.funcs[f]? =some fd)(hb:fd.body=some c){k:List KI}{st:St}{ρ:Env}{L:Nat→LC}{w:World}{az:List SV}{fn:Nat}{nt:NT}{fr:List (Nat×SV)}{d:Option Nat}
  (hv:VC P ao (run C n (.code c:: .call fn nt fr d fd::k) (fv st f ⟨fd.ntmps,[]⟩ (dX 0 az))) ρ L) (iT:SV.o6 st.aV az=true) (hw:HW Fs w0 st ρ w) (hrf: ∀l r fn nt fr ps x y fd,KI.rf l r fn nt fr ps x y fd∈k→∃vR c0,fq vR c0∧Env.Le vR ρ∧kZ c0 fr=true∧r<c0.r∧(vR.lr.getD r h_).params=ps∧(vR.lr.getD r h_).assign=x∧(vR.lr.getD r h_).body=y∧HA fr ⟨nt.n,[]⟩ vR {tmps:=(vR.lr.getD r h_).tmps,defers:=[]}) {R:Ending→World→Prop}
  (hR: ∀v w' m cY bF L',m<n→Env.Le ρ bF→(∀j,j<nl k→L' j=L j)→HW Fs w0 cY bF w'→v.sc cY.aV=true→py (fv cY fn nt fr) d=true→
   VC P ao (run C m k ((fv cY fn nt fr).put d v)) bF L'→R (.returned (v.val bF)) w'):
  CallsIn (FW none) 0 P f (SV.bH ρ az).toArray w R:=by
 refine callsIn_of_wp_marks hf hb trivial ?_ rfl;have XU:HW Fs w0 (fv st f ⟨fd.ntmps,[]⟩ (dX 0 az)) ρ w:=⟨hw.lens,xj az 0 iT,hw.fU,hw.nh,hw.kn,hw.own,hw.same,rfl⟩;refine wpIn_mono (vQ none c _ _ ρ L _ w hv XU (yR az fd.ntmps) ⟨fun l r fn nt fr ps x y fd hm=>hrf l r fn nt fr ps x y fd (by simpa using hm),rfl⟩) ?_;have key: ∀a' w',At P C ao Fs w0 n (.call fn nt fr d fd::k) ρ L a' w'→LeavesInM (FW none) 0 P fd a'.tmps R a'.defers .returning w':=by
  intro a' w' ⟨m,hm,cY,bF,L',h1,h2,h3,h4,h5⟩;cases m with
  | zero=>exact h5.elim
  | succ m=>
   simp only [run]at h5;split at h5
   case h_2=>exact h5.elim
   rename_i Ej I_;have Ns:Ej.fr=cY.fr∧Ej.nt=cY.nt∧Ej.aV=cY.aV:=by
    unfold mA at I_;rw [aiO]at I_;obtain⟨lz,_,rfl⟩:=I_;exact⟨rfl,rfl,rfl⟩
   split at h5
   ·rename_i v hv;split at h5
    ·rename_i hc;simp only [ai]at hc;refine mZ I_ h3 h4 fun w2 Ek=>?_
     refine⟨_,oD hT Ek (nt:=cY.nt) (by rw [Ns.1];exact h4) hv,hR v w2 m Ej bF L' (by omega) h1 h2 Ek hc.2 hc.1 h5⟩
    ·exact h5.elim
   ·exact h5.elim
 intro e a' w' hq;obtain⟨k',hk,dA⟩:=hq;cases e with
 | normal=>cases hk;exact key a' w' dA
 | ret=>cases hk;exact key a' w' dA
 | exit id=>cases hk
 | goto l=>cases hk
 | panic l=>cases hk
 | outgrown=>cases hk
theorem tq{st:St}{d:Option Nat}(h:py st d=true): ∀x,d=some x→x<st.nt.n:=by
 intro x hx;subst hx;simpa [py,ai3] using h
theorem sd{hp:List Ck}{l i r:Nat}{s:RS}{j:Jump}(h:recAt hp l=some (i,r,s,j)):hp[i]? =some (.kP l r s j):=by
 unfold recAt at h;split at h
 ·rename_i q hq;split at h
  ·rename_i l' r' s' j' hg;cases h;rw [List.findIdx?_eq_some_iff_getElem]at hq;obtain⟨bX,hd,_⟩:=hq;rw [ajk bX,aiP]at hg;rw [hg]at hd;simp only [Ck.isRec,beq_iff_eq]at hd;subst hd;rw [ajk bX,hg]
  ·cases h
 ·cases h
theorem tu{l:Nat}: ∀{k:List KI} {r fn:Nat} {nt:NT} {fr:List (Nat×SV)} {ps:Array Tmp} {x y:Code},qA l k=some (r,fn,nt,fr,ps,x,y)→∃fd,KI.rf l r fn nt fr ps x y fd∈k
 | [],_,_,_,_,_,_,_,h=>by cases h
 | i::k,r,fn,nt,fr,ps,x,y,h=>by
  have go:qA l k=some (r,fn,nt,fr,ps,x,y)→∃fd,KI.rf l r fn nt fr ps x y fd∈i::k:=fun h'=>by
   obtain⟨fd,hm⟩:=tu h';exact⟨fd,aiV _ hm⟩
  cases i with
  | rf l' r' fn' w9 Gu ps' x' y' XV=>
   unfold qA at h;split at h
   ·rename_i hl;rw [beq_iff_eq]at hl;cases h;subst hl;exact⟨XV,aiQ⟩
   ·exact go h
  | _=>exact go h
theorem lD{st:St}{ρ:Env}{w:World}(hw:HW Fs w0 st ρ w){l i r:Nat}{s:RS}{j:Jump}(h:recAt st.hp l=some (i,r,s,j)):
  w.heap[ρ.bv.getD l 0]? =some (.loop {ρ.lr.getD r h_ with state:=s.st,pending:=j.code}):=by
 obtain⟨S,hS⟩:=hw.own;have hi:=sd h;have bX:=(aiN.1 hi).1;exact(hS.at_ i ((Ck.kP l r s j).den ρ) (by rw [aiR (by simpa using bX),List.getElem?_map,hi];rfl)).1.2
theorem Cr{st:St}{ρ:Env}{w:World}(hw:HW Fs w0 st ρ w){l i r:Nat}{s:RS}{j:Jump}(h:recAt st.hp l=some (i,r,s,j))(s':RS)(j':Jump):
  HW Fs w0 {st with hp:=st.hp.set i (.kP l r s' j')} ρ (w.putObj (ρ.bv.getD l 0) (.loop {ρ.lr.getD r h_ with state:=s'.st,pending:=j'.code})):=by
 have hi:=sd h;have hb:=lD hw h;have uf:ρ.bv.getD l 0<w.heap.size:=(aiY.1 hb).1;have bX:=(aiN.1 hi).1;obtain⟨S,hS⟩:=hw.own;have KW:(st.hp.map (Ck.den ρ))[i]? =some ((Ck.kP l r s j).den ρ):=by rw [List.getElem?_map,hi];rfl
 have dA:=hS.at_ i _ (by rw [aiR (by simpa using bX)];exact KW);have iT:=aiM.1 hw.fU _ (ajn hi);refine⟨hw.lens,hw.kI,aiM.2 fun q hq=>?_,hw.nh,hw.kn,?_,hw.same.trans ⟨rfl,rfl,rfl,by simp⟩,hw.lC⟩
 ·rcases ajf hq with hq | rfl
  ·exact aiM.1 hw.fU q hq
  ·exact iT
 ·show bz ((st.hp.set i (.kP l r s' j')).map (Ck.den ρ)++Fs) _;rw [List.map_set];refine bz.step hS i _ _ KW rfl (S i) (by simp) (fun k hk hn=>World.putObj_heap_other (fun e=>hn ((dA.1.1 k).2 e))) ⟨dA.1.1,?_⟩ (fun k hk=> .inl hk);exact World.putObj_heap_same uf
theorem tw{ρ:Env}: ∀{l:List (Nat×SV)} {st k_:St} {a:Act} {w:World},kR st l=some k_→HW Fs w0 st ρ w→HA st.fr st.nt ρ a→
  HW Fs w0 k_ ρ w∧HA k_.fr k_.nt ρ (l.foldl (fun a x=>a.put (some x.1) (x.2.val ρ)) a)∧k_.aV=st.aV∧k_.hp=st.hp
 | [],st,k_,a,w,h,hw,ha=>by
  simp only [kR,aiP]at h;subst h;exact⟨hw,ha,rfl,rfl⟩
 | (d,v)::r,st,k_,a,w,h,hw,ha=>by
  unfold kR at h;split at h
  ·rename_i hc;rw [ai]at hc;have uO:=ha.put (d:=some d) (v:=v) (u:=v.val ρ) (tq hc.1) rfl st rfl;have e:=dL st (some d) v;obtain⟨h1,h2,h3,h4⟩:=tw h (hw.put hc.2) (by rw [e.2.2.2.1];exact uO);exact⟨h1,h2,h3.trans e.2.1,h4.trans e.1⟩
  ·cases h
theorem KX{ρ:Env}{a:Act}{w:World}{fr:List (Nat×SV)}{nt:NT}(ha:HA fr nt ρ a){o:Oper}{l:Nat}{az:List SV}(h:MT (look fr) o=some (l,az)){r:Loop}(hb:w.heap[ρ.bv.getD l 0]? =some (.loop r))
  (hs:az.length=r.params.size):
  (execOp a.eval o).run P w= .ok (.round (ρ.bv.getD l 0) r.fn ((r.params.zip (SV.bH ρ az).toArray).foldl (fun tmps (t,a)=>tmps.setIfInBounds t a) r.tmps) r.assign r.body) w∧∀c,o.op≠ .defer c:=by
 unfold MT at h;split at h
 ·rename_i fop args argTypes Bc;split at h
  ·rename_i l' as0 h1 h2;cases h;have e1:=eJ ha.eval h1;have e2:=kA ha.eval _ _ h2;have e3:Array.map a.eval args=(SV.bH ρ az).toArray:=Array.ext' (by rw [Array.toList_map,e2]);refine⟨?_,fun c hc=>by rw [Bc]at hc;cases hc⟩;have hlen: ∀l:List SV,(SV.bH ρ l).length=l.length:=by
    intro l;induction l with
    | nil=>rfl
    | cons x r ih=>simp [SV.bH,ih]
   have hy:=run_yield (P:=P) (args:=(SV.bH ρ az).toArray) hb (by simp [hlen,hs]);simp only [execOp,Bc,resolve,e1,SV.val,Deferred.ofValue,ai2,ajd,aiU,invoke,e3,Array.empty_append];exact hy
  ·cases h
 ·cases h
theorem Hc{ρ:Env}(ps:Array Tmp)(az:List SV)(t:Array Value):
  (ps.toList.zip az).foldl (fun a x=>a.put (some x.1) (x.2.val ρ)) ({tmps:=t,defers:=[]}:Act)=
   {tmps:=(ps.zip (SV.bH ρ az).toArray).foldl (fun tmps (t,a)=>tmps.setIfInBounds t a) t,defers:=[]}:=by
 rw [←Array.foldl_toList,Array.toList_zip];generalize ps.toList=l
 induction l generalizing az t with
 | nil=>rfl
 | cons d l ih=>
  cases az with
  | nil=>rfl
  | cons v az=>
   simp only [List.zip_cons_cons,List.foldl_cons,SV.bH];exact ih az _
theorem El(hT:bD P C.T=true)(zV:aR P C.FT)(Cs:fg P C){n:Nat}(vQ: ∀m,m<n→pW P C ao Fs w0 m)(Mr: ∀m,m<n→se P C ao Fs w0 m):se P C ao Fs w0 n:=by
 intro ro all r k st ρ L a w hv hw ha fI;cases n with
 | zero=>exact hv.elim
 | succ n=>
  have hn:n<n+1:=Nat.lt_succ_self n;have up: ∀{e:Exit} {a:Act} {w:World} {bF:Env} {L':Nat→LC},Env.Le ρ bF→(∀j,j<nl k→L' j=L j)→QK P C ao Fs w0 n k bF L' e a w→QK P C ao Fs w0 (n+1) k ρ L e a w:=fun h1 h2 hq=>hq.mono (ajC n) h1 h2
  cases r with
  | nil=>
   simp only [run]at hv;exact QK.here hn rfl hv hw ha
  | cons o r=>
   simp only [run]at hv;split at hv
   case isFalse=>exact hv.elim
   rename_i wT;have hd:=tq wT;have hd0:=hd;have next: ∀{m:Nat} (cY:St) (v:SV) (u:Value) (bF:Env) (L':Nat→LC) (w':World),m≤n→Env.Le ρ bF→(∀j,j<nl k→L' j=L j)→cY.fr=st.fr→cY.nt=st.nt→HW Fs w0 cY bF w'→v.sc cY.aV=true→u=v.val bF→
     VC P ao (run C m (.ops all r::k) (cY.put o.dst v)) bF L'→wpListIn (FW ro) 0 P all (QK P C ao Fs w0 (n+1) k ρ L) r (a.put o.dst u) w':=by
    intro m cY v u bF L' w' hm h1 h2 Tj tx h3 h4 h5 h6;have eu:=Env.Le.dK hw.lens h1;have uO:=(ha.more hw.kI hw.lC eu).put (d:=o.dst) (v:=v) (u:=u) hd h5 cY Tj;have:=Mr m (by omega) ro all r k _ bF L' (a.put o.dst u) w' h6 (h3.put h4) (by rw [(dL cY o.dst v).2.2.2.1,tx];exact uO) (fI.le h1);exact eV (fun e a w hq=>hq.mono (by omega) h1 h2) this
   have yU: ∀{m:Nat} (v:SV) (u:Value),m≤n→v.sc st.aV=true→u=v.val ρ→VC P ao (run C m (.ops all r::k) (st.put o.dst v)) ρ L→wpListIn (FW ro) 0 P all (QK P C ao Fs w0 (n+1) k ρ L) r (a.put o.dst u) w:=
    fun v u hm h1 h2 h3=>next st v u ρ L w hm (Env.Le.refl _) (fun _ _=>rfl) rfl rfl hw h1 h2 h3
   unfold wpListIn;split at hv
   ·exact hv.elim
   ·
    rename_i hg;have lT:=kd ha hw.kn hg;simp only [mR,BE.den]at lT;rw [if_neg (by rw [lT];simp)];exact⟨fun _ _=>trivial,yU .undef undef (Nat.le_refl _) rfl rfl hv⟩
   ·
    rename_i c dz hg;have lT:=kd ha hw.kn hg;simp only [mR]at lT;split at hv
    case isFalse=>exact hv.elim
    rename_i mw;have fork:VC P ao (.fork c (run C n (.ops all ({o with guard:=none}::r)::k) (st.GM c)) (run C n (.ops all r::k) ((st.q_ c).put o.dst .undef))) ρ L→
      (if Region.wanted o (yielded all a.tmps)=true then o.wpIn (FW ro) 0 P a w (wpListIn (FW ro) 0 P all (QK P C ao Fs w0 (n+1) k ρ L) r) (QK P C ao Fs w0 (n+1) k ρ L)
       else(∀f,o.about P w a.eval=some f→(FW ro).fn f)∧wpListIn (FW ro) 0 P all (QK P C ao Fs w0 (n+1) k ρ L) r (a.put o.dst undef) w):=by
     intro hf;simp only [VC,aJ]at hf;rw [lT];cases hd:c.den ρ with
     | true=>
      rw [if_pos rfl];have xf:HW Fs w0 (st.GM c) ρ w:=by
       have:=hw.know ((BE.bZ ρ c).1 hd) mw;refine⟨this.lens,aiM.2 fun x hx=>?_,this.fU,this.nh,this.kn,this.own,this.same,this.lC⟩;obtain⟨y,hy,rfl⟩:=ai_.1 hx;exact SV.UJ (aiM.1 hw.kI y hy)
      have h1:=Mr n hn ro all ({o with guard:=none}::r) k (st.GM c) ρ L a w (hf.1 ((BE.bZ ρ c).1 hd)) xf (HA.GM ha hd) fI;unfold wpListIn at h1;rw [if_pos (by simp [Region.wanted])]at h1;exact An (Oper.yG (fun a w h=>eV (fun e a w hq=>up (Env.Le.refl _) (fun _ _=>rfl) hq) h) (fun e a w hq=>up (Env.Le.refl _) (fun _ _=>rfl) hq) h1)
     | false=>
      rw [if_neg (by simp)];have Ek:HW Fs w0 (st.q_ c) ρ w:=by
       have:=hw.know (b:=iI c) (by rw [←BE.bZ,c7,hd];rfl) (Ct mw);refine⟨this.lens,aiM.2 fun x hx=>?_,this.fU,this.nh,this.kn,this.own,this.same,this.lC⟩;obtain⟨y,hy,rfl⟩:=ai_.1 hx;exact SV.QU (aiM.1 hw.kI y hy)
      have WK:=(HA.q_ ha hd).put (d:=o.dst) (v:= .undef) (u:=undef) hd0 rfl (st.q_ c) rfl;have:=Mr n hn ro all r k _ ρ L (a.put o.dst undef) w (hf.2 fun h=>by rw [←BE.bZ,hd]at h;cases h) (Ek.put rfl) (by rw [(dL (st.q_ c) o.dst .undef).2.2.2.1];exact WK) fI;exact⟨fun _ _=>trivial,eV (fun e a w hq=>hq.mono (by omega) (Env.Le.refl _) fun _ _=>rfl) this⟩
    split at hv
    ·rename_i res Em;obtain⟨En,KY⟩:=lp Em;split at hv
     ·rename_i QX;obtain⟨bW,hv⟩:=g_ hw.kn hv;simp only [mR]at bW;rw [lT];have iT:=KY;simp only [hU.sc,ai,QX,zX.grow]at iT;cases hd:c.den ρ with
      | true=>
       rw [if_pos rfl];obtain⟨S,hS⟩:=hw.own;have hD:=pX (P:=P) hT (Env.ok ρ) (ha.uN hw.kn (g:=some c) hd) En (yP S hS _) (bW hd) hw.lens.b;unfold sx at hD;rw [QX]at hD;refine mL (uQ En) (.inl hD) ?_;refine yU (.opt c res.val) _ (Nat.le_refl _) ?_ ?_ hv
       ·simp only [SV.sc,ai];exact⟨mw,iT.1.1⟩
       ·simp only [SV.val,hd,if_true]
      | false=>
       rw [if_neg (by simp)];refine⟨fun _ _=>trivial,yU (.opt c res.val) undef (Nat.le_refl _) ?_ ?_ hv⟩
       ·simp only [SV.sc,ai];exact⟨mw,iT.1.1⟩
       ·simp [SV.val,hd]
     ·exact fork hv
    ·exact fork hv
   ·
    rename_i hg;have lT:=kd ha hw.kn hg;simp only [mR]at lT;rw [if_pos lT];split at hv
    ·rename_i res Em;obtain⟨En,KY⟩:=lp Em;obtain⟨bW,hv⟩:=g_ hw.kn hv;have bW:=bW rfl;obtain⟨S,hS⟩:=hw.own;have hD:=pX (P:=P) hT (Env.ok ρ) (ha.uN hw.kn (g:=none) rfl) En (yP S hS _) bW hw.lens.b;have rb:VC P ao (XT res.hZ (run C n (.ops all r::k) (({cT st res.hZ with known:=more res.vcs st.known}:St).put o.dst res.val))) ρ L:=by
      cases he:res.hZ<;>rw [he]at hv<;>exact hv
     obtain⟨u,w',bF,ij,hle,XU,hu,abC,Gw⟩:=Np hw hS hD KY bW rb;refine mL (uQ En) ij ?_;obtain⟨e1,e2,e3,e4,e5⟩:=Al st res.hZ;exact next {cT st res.hZ with known:=more res.vcs st.known} res.val u bF L w' (Nat.le_refl _) hle (fun _ _=>rfl) e1 e2 XU (by rw [show({cT st res.hZ with known:=more res.vcs st.known}:St).aV=(cT st res.hZ).aV from rfl,e5];exact abC) hu Gw
    ·split at hv
     ·rename_i f az pY;split at hv
      ·exact hv.elim
      ·rename_i fd yV;have He:=List.mem_of_find?_eq_some yV;have GY:=List.find?_some yV;simp only [beq_iff_eq]at GY;obtain⟨hf,Eo⟩:=zV _ He;simp only at hf Eo;rw [GY]at hf;split at hv
       ·split at hv
        case h_2=>exact hv.elim
        rename_i ca hca;split at hv
        case isFalse=>exact hv.elim
        rename_i iT;simp only [ai,decide_eq_true_eq]at iT;obtain⟨⟨⟨kx,vO⟩,ke⟩,Ao⟩:=iT;have bX: ∀i∈ca.use az st.hp,i<st.hp.length:=fun i hi=>by simpa [ai3] using aiM.1 ke i hi
        simp only [VC]at hv;obtain⟨post,yW,Nt⟩:=hv;have cI:=bz.tg (acc:=[]) (use:=ca.use az st.hp) (by simpa using hw.own) Ao (by simpa using bX);have Hf:((ca.use az st.hp).map fun i=>st.hp.getD i .emp).map (Ck.den ρ)=(ca.use az st.hp).map (fun i=>(st.hp.map (Ck.den ρ)).getD i HP.emp):=by
         rw [List.map_map];refine ajq fun i hi=>?_
         have:=bX i hi;simp [this]
        rw [List.nil_append,←Hf]at cI;obtain⟨v,hs,w',hR,hp,yX,nM⟩:=yW w _ cI;obtain⟨ij,gu⟩:=QW (P:=P) (w:=w) ha pY;have hx:=Nt v hs hp;rw [j1]at hx;obtain⟨e2,rW,rfl,rfl,Gw⟩:=hx;have hle:=Env.gg ρ e2;have eu:=Env.Le.dK hw.lens hle;refine mL gu (.inl (ij.trans hR)) ?_;refine next {st with hp:=fb st.hp (ca.use az st.hp) (ca.new st.aV ((ca.use az st.hp).map fun i=>st.hp.getD i .emp)),aV:=st.aV.add ca.inc} (qv ca az st.hp st.aV) _ (ρ.ext e2) L w' (Nat.le_refl _) hle (fun _ _=>rfl) rfl rfl ?_ kx rfl Gw;refine⟨hw.lens.ext rW,cr (cz.j4 _ _) hw.kI,?_,eN (cz.j4 _ _) hw.nh,fun b hb=>?_,?_,hw.same.trans nM,cV (cz.j4 _ _) hw.lC⟩
        ·exact lE _ _ rfl _ _ _ (iA (cz.j4 _ _) hw.fU) vO
        ·exact(BE.gn eu (aiM.1 hw.nh b hb)).1 (hw.kn b hb)
        ·have h1:=bz.kR (use:=ca.use az st.hp) yX (fun i hi=>by rw [ln];simpa using bX i hi) fun _ _=> .inr trivial
         rw [←iU _ _ _ Ao,jZ eu hw.fU]at h1;simp only [fb];rw [lB];exact h1
       ·rename_i c hb;obtain⟨ij,gu⟩:=Nq (P:=P) (w:=w) ha pY hf Eo hb;refine⟨fun _ _=>trivial,?_⟩;rw [Oper.semAt_eq _ _ _ gu,ij,Oper.uponIn_enter];refine⟨fun h=>(by cases h),?_⟩;split at hv
        ·rename_i r0 abD;split at hv
         case isFalse=>exact hv.elim
         rename_i iT;simp only [ai,decide_eq_true_eq]at iT;obtain⟨⟨⟨kx,vO⟩,ke⟩,Ao⟩:=iT;obtain⟨bW,hv⟩:=g_ hw.kn hv;have bX: ∀i∈r0.use,i<st.hp.length:=fun i hi=>by simpa [ai3] using aiM.1 ke i hi
         have yW:=Cs f az st.hp r0 ρ abD (bW rfl);have cI:=bz.tg (acc:=[]) (use:=r0.use) (by simpa using hw.own) Ao (by simpa using bX);have Hf:(r0.use.map fun i=>st.hp.getD i .emp).map (Ck.den ρ)=r0.use.map (fun i=>(st.hp.map (Ck.den ρ)).getD i HP.emp):=by
          rw [List.map_map];refine ajq fun i hi=>?_
          have:=bX i hi;simp [this]
         rw [List.nil_append,←Hf]at cI;refine I8 ?_;have hc:=yW w _ cI;intro cs;obtain⟨e,w',Gu,hR,Nu,hfn,Hg⟩:=hc cs;refine⟨e,w',Gu,?_,Nu,hfn,Hg⟩;obtain⟨x,hs,rfl,⟨hx,rfl⟩,yX,nM⟩:=hR;subst hx;refine next {st with hp:=fb st.hp r0.use r0.new} r0.val _ ρ L w' (Nat.le_refl _) (Env.Le.refl _) (fun _ _=>rfl) rfl rfl ⟨hw.lens,hw.kI,?_,hw.nh,hw.kn,?_,hw.same.trans nM,hw.lC⟩ kx rfl hv
         ·exact lE _ _ rfl _ _ _ hw.fU vO
         ·have h1:=bz.kR (use:=r0.use) yX (fun i hi=>by rw [ln];simpa using bX i hi) fun _ _=> .inr trivial
          rw [←iU _ _ _ Ao]at h1;simp only [fb];rw [lB];exact h1
        split at hv
        ·rename_i ca hca;split at hv
         case isFalse=>exact hv.elim
         rename_i iT;simp only [ai,decide_eq_true_eq]at iT;obtain⟨⟨⟨kx,vO⟩,ke⟩,Ao⟩:=iT;have bX: ∀i∈ca.use az st.hp,i<st.hp.length:=fun i hi=>by simpa [ai3] using aiM.1 ke i hi
         simp only [VC]at hv;obtain⟨post,yW,Nt⟩:=hv;have cI:=bz.tg (acc:=[]) (use:=ca.use az st.hp) (by simpa using hw.own) Ao (by simpa using bX);have Hf:((ca.use az st.hp).map fun i=>st.hp.getD i .emp).map (Ck.den ρ)=(ca.use az st.hp).map (fun i=>(st.hp.map (Ck.den ρ)).getD i HP.emp):=by
          rw [List.map_map];refine ajq fun i hi=>?_
          have:=bX i hi;simp [this]
         rw [List.nil_append,←Hf]at cI;refine I8 ?_;have hc:=yW w _ cI;intro cs;obtain⟨e,w',Gu,hR,Nu,hfn,Hg⟩:=hc cs;refine⟨e,w',Gu,?_,Nu,hfn,Hg⟩;obtain⟨v,hs,rfl,hp,yX,nM⟩:=hR;have hx:=Nt v hs hp;rw [j1]at hx;obtain⟨e2,rW,rfl,rfl,Gw⟩:=hx;have hle:=Env.gg ρ e2;have eu:=Env.Le.dK hw.lens hle;refine next {st with hp:=fb st.hp (ca.use az st.hp) (ca.new st.aV ((ca.use az st.hp).map fun i=>st.hp.getD i .emp)),aV:=st.aV.add ca.inc} (qv ca az st.hp st.aV) _ (ρ.ext e2) L w' (Nat.le_refl _) hle (fun _ _=>rfl) rfl rfl ?_ kx rfl Gw;refine⟨hw.lens.ext rW,cr (cz.j4 _ _) hw.kI,?_,eN (cz.j4 _ _) hw.nh,fun b hb=>?_,?_,hw.same.trans nM,cV (cz.j4 _ _) hw.lC⟩
         ·exact lE _ _ rfl _ _ _ (iA (cz.j4 _ _) hw.fU) vO
         ·exact(BE.gn eu (aiM.1 hw.nh b hb)).1 (hw.kn b hb)
         ·have h1:=bz.kR (use:=ca.use az st.hp) yX (fun i hi=>by rw [ln];simpa using bX i hi) fun _ _=> .inr trivial
          rw [←iU _ _ _ Ao,jZ eu hw.fU]at h1;simp only [fb];rw [lB];exact h1
        ·split at hv
         case isFalse=>exact hv.elim
         rename_i iT;refine Nr (Ei hT (vQ n hn) hf hb hv iT hw (fun l r fn nt fr ps x y fd hm=>fI.rf l r fn nt fr ps x y fd (by simpa using hm)) ?_);intro v w' m cY bF L' hm h1 h2 h3 h4 h5 h6;have dz:=fq.le hw.lens h3.lens h1;have Ja:HW Fs w0 (fv cY st.fn st.nt st.fr) bF w':=⟨h3.lens,cr dz hw.kI,h3.fU,h3.nh,h3.kn,h3.own,h3.same,cV dz hw.lC⟩;exact next (fv cY st.fn st.nt st.fr) v _ bF L' w' (Nat.le_of_lt hm) h1 h2 rfl rfl Ja h4 rfl h6
     ·split at hv
      case h_2=>exact hv.elim
      rename_i l az XW;split at hv
      case h_2=>exact hv.elim
      rename_i rr fn nt fr ps x y i' r' s' j' yV Hh;split at hv
      case isFalse=>exact hv.elim
      rename_i hc;rw [ai,decide_eq_true_eq,beq_iff_eq]at hc;obtain⟨rfl,hlen⟩:=hc;split at hv
      case h_2=>exact hv.elim
      rename_i k_ pG;obtain⟨fd,He⟩:=tu yV;obtain⟨vR,c0,k1,k2,k3,k4,k5,k6,k7,k8⟩:=fI.rf l rr fn nt fr ps x y fd He;have XX:=Env.Le.dK k1 k2;have hlr:vR.lr.getD rr h_=ρ.lr.getD rr h_:=XX.r _ k4;rw [hlr]at k5 k6 k7 k8;have kO:=lD hw Hh;obtain⟨ij,gu⟩:=KX (P:=P) ha XW kO (by rw [hlen,←k5]);refine⟨fun _ _=>trivial,?_⟩;rw [Oper.semAt_eq _ _ _ gu,ij,Oper.uponIn_round];refine⟨fun h=>(by cases h),?_⟩;refine roundIn_of_wpIn trivial ?_;simp only [k5,k6,k7];have xf:HW Fs w0 (fv st fn ⟨nt.n,[]⟩ fr) ρ w:=⟨hw.lens,cr (fq.le k1 hw.lens k2) k3,hw.fU,hw.nh,hw.kn,hw.own,hw.same,rfl⟩;have Hi:HA fr ⟨nt.n,[]⟩ ρ {tmps:=(ρ.lr.getD rr h_).tmps,defers:=[]}:=k8.more k3 rfl XX;obtain⟨Ek,WK,adM,_⟩:=tw pG xf Hi;rw [Hc]at WK;have KM:FW ro=FW ro:=rfl;have hlb:l<st.aV.b:=by
       have:=aiM.1 hw.fU _ (ajn (sd Hh));simp only [Ck.sc,ai,ai3]at this;exact this.1
      have Ep:Cu ρ (.begin l:: .code y:: .round l st.fn st.nt st.fr o.dst:: .ops all r::k) (some (ρ.bv.getD l 0)):=
       ⟨fun l r fn nt fr ps x y fd hm=>fI.rf l r fn nt fr ps x y fd (by simpa using hm),⟨ρ,st.aV,hw.lens,Env.Le.refl _,hlb,rfl⟩⟩
      refine wpIn_mono (vQ n hn (some (ρ.bv.getD l 0)) x _ k_ ρ L _ w hv Ek WK Ep) ?_;intro e a1 w1 hq;obtain⟨k',ku,m,hm,Ej,Jb,L2,g1,g2,g3,g4,g5⟩:=hq;cases e with
      | normal=>
       cases ku;cases m with
       | zero=>exact g5.elim
       | succ m=>
        simp only [run]at g5;split at g5
        case h_2=>exact g5.elim
        rename_i i2 r2 j2 Tv;have Tw:=lD g3 Tv;have XY:Jb.bv.getD l 0=ρ.bv.getD l 0:=((Env.Le.dK hw.lens g1).b l hlb).symm;rw [XY]at Tw;refine⟨_,run_beginRound Tw rfl,?_⟩;have Ja:=Cr g3 Tv .busy j2;rw [XY]at Ja;cases m with
        | zero=>exact g5.elim
        | succ m=>
        have XZ:Cu Jb (.round l st.fn st.nt st.fr o.dst:: .ops all r::k) (some (ρ.bv.getD l 0)):=
         ⟨fun l r fn nt fr ps x y fd hm=>(fI.le g1).rf l r fn nt fr ps x y fd (by simpa using hm),⟨ρ,st.aV,hw.lens,g1,hlb,rfl⟩⟩
        refine wpIn_mono (vQ (m+1) (by omega) (some (ρ.bv.getD l 0)) y _ _ Jb L2 a1 _ g5 Ja g4 XZ) ?_;have fin: ∀(j:Jump) (a3:Act) (w3:World),At P C ao Fs w0 (m+1) (.lJ l j st.fn st.nt st.fr o.dst:: .ops all r::k) Jb L2 a3 w3→
          ∃v w',(Instr.endRound (ρ.bv.getD l 0) j.code).run P w3= .ok v w'∧wpListIn (FW ro) 0 P all (QK P C ao Fs w0 (n+1) k ρ L) r (a.put o.dst v) w':=by
         intro j a3 w3 ⟨m3,Z7,WL,X0,L3,q1,q2,q3,q4,q5⟩;cases m3 with
         | zero=>exact q5.elim
         | succ m3=>
          simp only [run]at q5;split at q5
          case h_2=>exact q5.elim
          rename_i i3 r3 s3 j3 Ty;split at q5
          case isFalse=>exact q5.elim
          rename_i agn;have KZ:=g1.trans q1;have Tz:=lD q3 Ty;have X1:X0.bv.getD l 0=ρ.bv.getD l 0:=((Env.Le.dK hw.lens KZ).b l hlb).symm;rw [X1]at Tz;refine⟨_,_,run_endRound j.code Tz,?_⟩;have Nv:=Cr q3 Ty (if j= .none then .ready else .done) j;rw [X1]at Nv;have dz:=fq.le hw.lens q3.lens KZ;have hw5:HW Fs w0 (fv {WL with hp:=WL.hp.set i3 (.kP l r3 (if j= .none then .ready else .done) j)} st.fn st.nt st.fr) X0 _:=⟨Nv.lens,cr dz hw.kI,Nv.fU,Nv.nh,Nv.kn,Nv.own,Nv.same,cV dz hw.lC⟩;have:=next (fv {WL with hp:=WL.hp.set i3 (.kP l r3 (if j= .none then .ready else .done) j)} st.fn st.nt st.fr) (.bool (.lit (decide (j= .none)))) (.bool j.code.isNone) X0 L3 _ (by omega) KZ
           (fun j hj=>(q2 j hj).trans (g2 j hj)) rfl rfl hw5 rfl (by cases j<;>rfl) q5
          cases j<;>exact this
        intro e3 a3 w3 hq3;obtain⟨k3',TA,UL⟩:=hq3;cases e3 with
        | normal=>
         cases TA;refine fin .none a3 w3 ?_;obtain⟨m3,Z7,WL,X0,L3,q1,q2,q3,q4,q5⟩:=UL;cases m3 with
         | zero=>exact q5.elim
         | succ m3=>exact⟨m3,by omega,WL,X0,L3,q1,q2,q3,q4,q5⟩
        | ret=>cases TA;exact fin .ret a3 w3 UL
        | exit id=>cases TA;exact fin (.exit id) a3 w3 UL
        | goto l=>cases TA
        | panic l=>cases TA
        | outgrown=>cases TA
      | exit id=>cases ku
      | ret=>cases ku
      | goto l=>cases ku
      | panic l=>cases ku
      | outgrown=>cases ku
end
abbrev Wr:=Nat×Option Nat×Value
def mn(a:Act)(W:List Wr):Act:=W.foldl (fun a x=>a.put x.2.1 x.2.2) a
theorem iY(a:Act)(x y:List Wr):mn a (x++y)=mn (mn a x) y:=List.foldl_append ..
theorem tz(a:Act)(i:Nat)(d:Option Nat)(v:Value):mn a [(i,d,v)]=a.put d v:=rfl
theorem tA(a:Act)(d:Option Nat)(v:Value):(a.put d v).tmps.size=a.tmps.size:=by cases d<;>simp [Act.put]
theorem put_defers(a:Act)(d:Option Nat)(v:Value):(a.put d v).defers=a.defers:=by cases d<;>rfl
theorem nN: ∀(W:List Wr) (a:Act),(mn a W).tmps.size=a.tmps.size
 | [],_=>rfl
 | x::r,a=>by
  show(mn (a.put x.2.1 x.2.2) r).tmps.size=_;rw [nN r,tA]
theorem kC: ∀(W:List Wr) (a:Act),(mn a W).defers=a.defers
 | [],_=>rfl
 | x::r,a=>by
  show(mn (a.put x.2.1 x.2.2) r).defers=_;rw [kC r,put_defers]
theorem uR(a:Act)(d:Option Nat)(v:Value)(s:Nat)(h:d≠some s):(a.put d v).tmps.getD s undef=a.tmps.getD s undef:=by
 cases d with
 | none=>rfl
 | some d=>
  have:d≠s:=fun e=>h (by rw [e])
  simp only [Act.put];rw [ai7,ai7,Array.getElem?_setIfInBounds_ne this]
theorem yY(a:Act)(d:Nat)(v:Value)(h:d<a.tmps.size):(a.put (some d) v).tmps.getD d undef=v:=by
 simp only [Act.put];rw [ai7,Array.getElem?_setIfInBounds_self_of_lt h];rfl
theorem Nw(a b:Act)(d:Option Nat)(v:Value)(s:Nat)(hs:a.tmps.size=b.tmps.size)(h:a.tmps.getD s undef=b.tmps.getD s undef):
  (a.put d v).tmps.getD s undef=(b.put d v).tmps.getD s undef:=by
 by_cases hd:d=some s
 ·subst hd;by_cases bX:s<a.tmps.size
  ·rw [yY a s v bX,yY b s v (by omega)]
  ·simp only [Act.put];rw [ai7,ai7,Array.getElem?_eq_none (by simpa using bX),Array.getElem?_eq_none (by simp;omega)]
 ·rw [uR a d v s hd,uR b d v s hd,h]
theorem qM(s:Nat): ∀(W:List Wr) (a b:Act),a.tmps.size=b.tmps.size→a.tmps.getD s undef=b.tmps.getD s undef→
  (mn a W).tmps.getD s undef=(mn b (W.filter fun x=>x.2.1==some s)).tmps.getD s undef
 | [],a,b,_,h=>h
 | x::r,a,b,hs,h=>by
  show(mn (a.put x.2.1 x.2.2) r).tmps.getD s undef=_;by_cases hx:x.2.1=some s
  ·rw [List.filter_cons_of_pos (by simpa using hx)];show _=(mn (b.put x.2.1 x.2.2) _).tmps.getD s undef;exact qM s r _ _ (by rw [tA,tA,hs]) (Nw a b _ _ s hs h)
  ·rw [List.filter_cons_of_neg (by simpa using hx)];exact qM s r _ _ (by rw [tA,hs]) (by rw [uR a _ _ s hx,h])
theorem put_comm(a:Act){d d':Option Nat}(v v':Value)(h: ∀s,d=some s→d'≠some s):(a.put d v).put d' v'=(a.put d' v').put d v:=by
 cases d with
 | none=>rfl
 | some d=>
  cases d' with
  | none=>rfl
  | some d'=>
   have:d≠d':=fun e=>h d rfl (by rw [e])
   simp only [Act.put];rw [Array.setIfInBounds_comm _ _ this]
theorem Bd(d:Option Nat)(v:Value): ∀(W:List Wr) (a:Act),(∀x∈W,∀s,d=some s→x.2.1≠some s)→mn (a.put d v) W=(mn a W).put d v
 | [],_,_=>rfl
 | x::r,a,h=>by
  show mn ((a.put d v).put x.2.1 x.2.2) r=(mn (a.put x.2.1 x.2.2) r).put d v;rw [put_comm a v x.2.2 (h x aiQ)];exact Bd d v r _ fun y hy=>h y (aiV _ hy)
section order
variable {all:Array Oper} {pm:List Nat}
theorem uS(h:xP all pm=true){p:Nat}{o:Oper}(ho:all[p]? =some o):
  (∀e∈o.after,ajK .any e=true→e.on<p)∧
  ∀q,q<all.size→(pm.getD p 0).testBit q=true→∃e∈o.after,ajK .any e=true∧(q=e.on∨(pm.getD e.on 0).testBit q=true):=by
 have hp:p<all.size:=(aiY.1 ho).1;have:=aiM.1 h p (ai8.2 hp);simp only [ho,ai]at this;refine⟨fun e he hb=>?_,fun q hq Er=>?_⟩
 ·have h1:=aiM.1 this.1 e (by simpa using he);simpa [hb,ai3] using h1
 ·have h1:=aiM.1 this.2 q (ai8.2 hq);rw [Er]at h1;simp only [Bool.not_true,Bool.false_or]at h1;obtain⟨e,he,h2⟩:=List.any_eq_true.1 h1;simp only [ai,Bool.or_eq_true,beq_iff_eq]at h2;exact⟨e,by simpa using he,h2.1,h2.2⟩
theorem Be(h:xP all pm=true)(X:Nat→Prop)(hX: ∀p o,all[p]? =some o→X p→∀e∈o.after,ajK .any e=true→X e.on):
  ∀(p:Nat) (o:Oper),all[p]? =some o→X p→∀q,q<all.size→(pm.getD p 0).testBit q=true→X q:=by
 intro p
 induction p using Nat.strongRecOn with
 | _ p ih=>
  intro o ho hXp q hq Er;obtain⟨h1,h2⟩:=uS h ho;obtain⟨e,he,hb,n7⟩:=h2 q hq Er;have X3:=hX p o ho hXp e he hb;rcases n7 with rfl | Nx
  ·exact X3
  ·have bX:=h1 e he hb;have hp:p<all.size:=(aiY.1 ho).1;have hoe:all[e.on]? =some all[e.on]:=Array.getElem?_eq_getElem (by omega);exact ih e.on bX _ hoe X3 q hq Nx
theorem tB(h:xP all pm=true)(X:Nat→Prop)(hX: ∀p o,all[p]? =some o→X p→∀e∈o.after,ajK .any e=true→X e.on)
  {p:Nat} {o:Oper} (ho:all[p]? =some o) (hr: ∀e∈o.after,ajK .any e=true→X e.on) {q:Nat} (hq:q<all.size) (Er:(pm.getD p 0).testBit q=true):X q:=by
 obtain⟨h1,h2⟩:=uS h ho;obtain⟨e,he,hb,n7⟩:=h2 q hq Er;have X3:=hr e he hb;rcases n7 with rfl | Nx
 ·exact X3
 ·have bX:=h1 e he hb;have hp:p<all.size:=(aiY.1 ho).1;have hoe:all[e.on]? =some all[e.on]:=Array.getElem?_eq_getElem (by omega);exact Be h X hX e.on _ hoe X3 q hq Nx
theorem rG(h:ko all pm=true){i j d:Nat}{oi oj:Oper}(hi:all[i]? =some oi)(hj:all[j]? =some oj)(hd:oi.dst=some d)
  (hs:d∈slotsOf all oj∨oj.dst=some d) (dI:i≠j):(pm.getD j 0).testBit i=true∨(pm.getD i 0).testBit j=true:=by
 have yL:i<all.size:=(aiY.1 hi).1;have WJ:j<all.size:=(aiY.1 hj).1;have h1:=aiM.1 h i (ai8.2 yL);simp only [hi,hd]at h1;have h2:=aiM.1 h1 j (ai8.2 WJ);simp only [hj,Bool.or_eq_true,beq_iff_eq,Bool.not_eq_true',Bool.or_eq_false_iff,beq_eq_false_iff_ne]at h2;rcases h2 with((h2 | h2) | h2) | h2
 ·exact absurd h2 dI
 ·rcases hs with hs | hs
  ·have:(slotsOf all oj).contains d=true:=by simpa using hs
   rw [this]at h2;cases h2.1
  ·exact absurd hs h2.2
 ·exact .inl h2
 ·exact .inr h2
end order
theorem uT{x:List (Nat×SV)}{f:Nat→Bool}{s:Nat}{v:SV}(h:look (x.filter fun y=>f y.1) s=some v):f s=true:=by
 induction x with
 | nil=>cases h
 | cons t r ih=>
  obtain⟨q,u⟩:=t;by_cases hf:f q=true
  ·rw [List.filter_cons_of_pos (by exact hf)]at h;unfold look at h;split at h
   ·rename_i hq;rw [beq_iff_eq]at hq;subst hq;exact hf
   ·exact ih h
  ·rw [List.filter_cons_of_neg (by exact hf)]at h;exact ih h
section
variable {P:Program} {C:Ctx} {ao:Value→List HP→Prop} {Fs:List HP} {w0:World} {all:Array Oper} {pm:List Nat}
def X4(P:Program)(all:Array Oper)(ro:Option Nat)(nt:NT)(i:Nat)(o:Oper)(v:Value)(base:Act)(hp:List Ck)(ρ:Env)(rd:List Nat):Prop:=
 ∀(a':Act) (w':World) (S:Nat→Nat→Prop) (K:Act→World→Prop) (Q:Exit→Act→World→Prop),(∀s∈slotsOf all o,a'.tmps.getD s undef=base.tmps.getD s undef)→a'.defers=base.defers→nt.n≤a'.tmps.size→
  Reads hp ρ w' S rd→K (a'.put o.dst v) w'→wpOpIn (FW ro) 0 P all Q i K a' w'
theorem vS{fr:List (Nat×SV)}{nt:NT}{ρ:Env}{base a':Act}{aO:List Nat}(h:HA fr nt ρ base)(hs: ∀s∈aO,a'.tmps.getD s undef=base.tmps.getD s undef)(hd:a'.defers=base.defers)(hn:nt.n≤a'.tmps.size):
  HA (restrict fr aO) nt ρ a':=by
 refine⟨hd.trans h.defers,hn,fun s v hl=>?_⟩;have h1:=lU (f:=fun q=>aO.contains q) hl;have h2:=uT (f:=fun q=>aO.contains q) hl;rw [hs s (by simpa using h2),h.aO s v h1]
theorem Hj(hT:bD P C.T=true){ro:Option Nat}{nt:NT}{i:Nat}{o:Oper}(hi:all[i]? =some o){st:St}{ρ:Env}{base:Act}{g:Option BE}{res:hU}
  (hg:qz all (restrict st.fr (slotsOf all o)) st.known o=some g) (hr:DJ C g {st with fr:=restrict st.fr (slotsOf all o)} o=some res) (he:res.hZ= .none)
  (hk: ∀b∈st.known,b.prop ρ) (hl:fq ρ st.aV) (bW:mR ρ g=true→∀b∈res.vcs,b.prop ρ) (ha:HA st.fr nt ρ base):
  X4 P all ro nt i o (if mR ρ g then res.val.val ρ else undef) base st.hp ρ res.rd:=by
 intro a' w' S K Q hs hd hn cP hK;have uO:=vS ha hs hd hn;have lT:=kd uO hk hg;unfold wpOpIn;simp only [hi];rw [lT];cases KW:mR ρ g with
 | false=>
  rw [if_neg (by simp)];rw [KW,if_neg (by simp)]at hK;exact⟨fun _ _=>trivial,hK⟩
 | true=>
  rw [if_pos rfl];rw [KW,if_pos rfl]at hK;have hr:oa C g {st with fr:=restrict st.fr (slotsOf all o)} o=some res:=by
   rcases yQ hr with⟨rfl,_⟩ | hr
   ·cases KW
   ·exact hr
  obtain⟨En,KY⟩:=lp hr;have sW:sR ρ (AN g st.known (restrict st.fr (slotsOf all o))) a'.eval:=uO.uN hk KW;have hD:=pX (P:=P) hT (Env.ok ρ) sW En cP (bW KW) hl.b;unfold sx at hD;rw [he]at hD;exact mL (uQ En) (.inl hD) hK
abbrev jM(aQ:Array Bool)(i:Nat):Bool:=aQ.getD i false
structure DI (P:Program) (Fs:List HP) (w0:World) (all:Array Oper) (ro:Option Nat) (nt:NT) (a0:Act) (aQ:Array Bool) (a:Act) (w:World)
  (rest:List Nat) (done:Nat) (log:List (Nat×List Nat)) (st:St) (ρ:Env) (W:List Wr):Prop where
 hw:HW Fs w0 st ρ w
 tx:st.nt=nt
 act:a=mn a0 (W.filter fun x=>jM aQ x.1)
 ha:HA st.fr nt ρ (mn a0 W)
 nd:(W.map (·.1)).Nodup
 done: ∀i,done.testBit i=true↔i∈W.map (·.1)
 rest: ∀i,i∈rest↔i<all.size∧i ∉ W.map (·.1)
 sub: ∀i,jM aQ i=true→i∈W.map (·.1)
 QY:aQ.size=all.size
 WM: ∀p o,all[p]? =some o→jM aQ p=true→∀e∈o.after,ajK .any e=true→jM aQ e.on=true
 QZ: ∀W1 x W2,W=W1++x::W2→∃o,all[x.1]? =some o∧x.2.1=o.dst∧∀e∈o.after,ajK .any e=true→e.on∈W1.map (·.1)
 Q0: ∀W1 x W2,W=W1++x::W2→jM aQ x.1=false→∃o rd hp bF,all[x.1]? =some o∧(x.1,rd)∈log∧X4 P all ro nt x.1 o x.2.2 (mn a0 W1) hp bF rd∧
  ∀j∈rd,∀ck,hp[j]? =some ck→∃QR,st.hp[j]? =some QR∧QR.den ρ=ck.den bF
section dK
variable {ro:Option Nat} {nt:NT} {a0:Act} {aQ:Array Bool} {a:Act} {w:World} {rest:List Nat} {done:Nat} {log:List (Nat×List Nat)} {st:St} {ρ:Env} {W:List Wr}
theorem DI.TB(h:DI P Fs w0 all ro nt a0 aQ a w rest done log st ρ W){A B:List Wr}(hW:W=A++B):
  ∀p o,all[p]? =some o→p∈A.map (·.1)→∀e∈o.after,ajK .any e=true→e.on∈A.map (·.1):=by
 intro p o ho hp e he hb;obtain⟨y,hy,rfl⟩:=ai_.1 hp;obtain⟨A1,A2,rfl⟩:=List.append_of_mem hy;obtain⟨o',I9,_,Ap⟩:=h.QZ A1 y (A2++B) (by rw [hW];simp);rw [ho]at I9;cases I9;have:=Ap e he hb;rw [List.map_append];exact List.mem_append_left _ this
theorem DI.before(h:DI P Fs w0 all ro nt a0 aQ a w rest done log st ρ W)(tC:ko all pm=true)(Bf:xP all pm=true){i:Nat}{o:Oper}(hi:all[i]? =some o)
  (oE: ∀e∈o.after,ajK .any e=true→jM aQ e.on=true) {W1 tail:List Wr} (hW:W=W1++tail) (X5:i ∉ W1.map (·.1)) {s:Nat} (hs:s∈slotsOf all o∨o.dst=some s):
  ∀y∈W1,y.2.1=some s→jM aQ y.1=true:=by
 intro y hy Jc;obtain⟨A,B,rfl⟩:=List.append_of_mem hy;obtain⟨oy,UM,hdy,Ap⟩:=h.QZ A y (B++tail) (by rw [hW];simp);have dI:y.1≠i:=fun e=>X5 (by rw [←e];simp)
 have XW:y.1<all.size:=(aiY.1 UM).1;have yL:i<all.size:=(aiY.1 hi).1;rcases rG tC UM hi (hdy▸Jc) hs dI with hb | hb
 ·exact tB Bf (fun q=>jM aQ q=true) h.WM hi oE XW hb
 ·have:=tB Bf (fun q=>q∈A.map (·.1)) (h.TB (A:=A) (B:=y::(B++tail)) (by rw [hW];simp)) UM Ap yL hb;exact absurd (by rw [List.map_append];exact List.mem_append_left _ this) X5
theorem DI.behind(h:DI P Fs w0 all ro nt a0 aQ a w rest done log st ρ W)(tC:ko all pm=true)(Bf:xP all pm=true){W1 W2:List Wr}{x:Wr}{o:Oper}(hi:all[x.1]? =some o)
  (ng:jM aQ x.1=false) (hW:W=W1++x::W2) {s:Nat} (hs:s∈slotsOf all o∨o.dst=some s):
  ∀y∈W2,y.2.1=some s→jM aQ y.1=false:=by
 intro y hy Jc;obtain⟨A,B,rfl⟩:=List.append_of_mem hy;obtain⟨oy,UM,hdy,Ap⟩:=h.QZ (W1++x::A) y B (by rw [hW];simp);obtain⟨ox,hox,_,X6⟩:=h.QZ W1 x (A++y::B) hW;rw [hi]at hox;cases hox;have gu:=h.nd;rw [hW]at gu;simp only [List.map_append,ajb]at gu;rw [List.nodup_append]at gu;obtain⟨_,UN,UO⟩:=gu;have XW:y.1<all.size:=(aiY.1 UM).1;have yL:x.1<all.size:=(aiY.1 hi).1;have dI:y.1≠x.1:=fun e=>by
  have:=(List.nodup_cons.1 UN).1;exact this (by rw [←e];simp)
 rcases rG tC UM hi (hdy▸Jc) hs dI with hb | hb
 ·have:=tB Bf (fun q=>q∈W1.map (·.1)) (h.TB (A:=W1) (B:=x::(A++y::B)) hW) hi X6 XW hb;exact absurd rfl (UO _ this _ (by simp))
 ·cases hl:jM aQ y.1 with
  | false=>rfl
  | true=>
   have:=Be Bf (fun q=>jM aQ q=true) h.WM y.1 oy UM hl x.1 yL hb;rw [ng]at this;cases this
theorem vT{W1 tail:List Wr}{s:Nat}(h1: ∀y∈W1,y.2.1=some s→jM aQ y.1=true)(h2: ∀y∈tail,y.2.1=some s→jM aQ y.1=false):
  (mn a0 ((W1++tail).filter fun x=>jM aQ x.1)).tmps.getD s undef=(mn a0 W1).tmps.getD s undef:=by
 rw [qM s _ a0 a0 rfl rfl,qM s W1 a0 a0 rfl rfl];have e2:(tail.filter fun x=>jM aQ x.1).filter (fun x=>x.2.1==some s)=[]:=by
  rw [List.filter_filter,List.filter_eq_nil_iff];intro y hy hc;simp only [ai,beq_iff_eq]at hc;rw [h2 y hy hc.1]at hc;cases hc.2
 have e1:(W1.filter fun x=>jM aQ x.1).filter (fun x=>x.2.1==some s)=W1.filter (fun x=>x.2.1==some s):=by
  rw [List.filter_filter];refine List.filter_congr fun y hy=>?_
  by_cases Jc:y.2.1=some s
  ·rw [h1 y hy Jc,Bool.and_true]
  ·have:(y.2.1==some s)=false:=by simpa using Jc
   rw [this,Bool.false_and]
 rw [List.filter_append,List.filter_append,e1,e2,List.append_nil]
end dK
end
end Go.RX
