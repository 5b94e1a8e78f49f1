/- Executor. -/
import Derived.Test.YtmgbbbmdbpbeeaaRxX
import Derived.RangeFuncNested
open Array renaming getD_eq_getD_getElem? → adS, getElem?_eq_some_iff → adD
open Bool renaming and_eq_true → ai
open Go.Result renaming andThen_ok → adC
open Go.Sem renaming run_bind → adL, run_pure → ad_
open List renaming all_eq_true → adt, getElem?_append_left → adz, getElem?_eq_getElem → ad8, getElem?_eq_some_iff → adu, mem_cons_of_mem → adB, mem_cons_self → ady, mem_of_getElem? → ad3, mem_or_eq_of_mem_set → ad6
open Nat renaming blt_eq → adK, le_succ → aec
open Option renaming map_eq_some_iff → adw
open Option.some renaming injEq → adv
namespace Go.RX
def fI(P:Program)(C:Ctx):Prop:= ∀f az hp r (ρ:Env),CO C f az hp=some r→(∀b∈r.vcs,b.prop ρ)→
 ar P f (SV.vals ρ az) ((r.use.map fun i=>hp.getD i .emp).map (Ck.den ρ)) fun x hs=>x=r.val.val ρ∧hs=r.new.map (Ck.den ρ)
theorem fI.none{P:Program}{C:Ctx}(h:C.pure=fun _=>Option.none):fI P C:=by
 intro f az hp r ρ hp;simp [CO,h]at hp
def bL(P:Program)(FT:List (Nat×Func)):Prop:= ∀x∈FT,P.funcs[x.1]? =some x.2∧(x.2.name== "runtime.NumGoroutine")=false
section
variable {P:Program} {C:Ctx} {ax:Value→List HP→Prop} {Fs:List HP} {w0:World}
theorem vN{ρ:Env}(a b:List SV):SV.vals ρ (a++b)=SV.vals ρ a++SV.vals ρ b:=by
 induction a with
 | nil=>rfl
 | cons x r ih=>simp only [List.cons_append,SV.vals,ih]
theorem FH{ρ:Env}: ∀(l:List SV) (i:Nat),(SV.vals ρ l)[i]? =(l[i]?).map (SV.val ρ)
 | [],i=>by simp [SV.vals]
 | x::r,0=>by simp [SV.vals]
 | x::r,i+1=>by simp only [SV.vals,List.getElem?_cons_succ];exact FH r i
theorem Bc{ρ:Env}: ∀(l:List SV) (n s:Nat) (v:SV),look (dM n l) s=some v→n≤s∧l[s - n]? =some v
 | [],n,s,v,h=>by cases h
 | x::r,n,s,v,h=>by
  unfold dM look at h;split at h
  ·rename_i hs;rw [beq_iff_eq]at hs;subst hs;cases h;exact⟨Nat.le_refl _,by simp⟩
  ·rename_i hs;obtain⟨h1,h2⟩:=Bc (ρ:=ρ) r (n+1) s v h;refine⟨by omega,?_⟩;rw [show s - n=(s - (n+1))+1 by omega,List.getElem?_cons_succ];exact h2
theorem wC{c:cG}: ∀(l:List SV) (n:Nat),SV.oE c l=true→kF c (dM n l)=true
 | [],n,_=>rfl
 | x::r,n,h=>by
  simp only [SV.oE,ai]at h;simp only [dM,kF,List.all_cons,ai];exact⟨h.1,wC r (n+1) h.2⟩
theorem yg{ρ:Env}(az:List SV)(nt:Nat):HA (dM 0 az) ⟨nt,[]⟩ ρ {tmps:=(SV.vals ρ az).toArray++Array.replicate (nt - (SV.vals ρ az).toArray.size) undef,defers:=[]}:=by
 refine⟨rfl,by simp;omega,fun s v hs=>?_⟩;obtain⟨_,h2⟩:=Bc (ρ:=ρ) az 0 s v hs;rw [Nat.sub_zero]at h2;have h3:(SV.vals ρ az)[s]? =some (v.val ρ):=by rw [FH,h2];rfl
 rw [adS,Array.getElem?_append_left (by simpa using (adu.1 h3).1)];simp [h3]
theorem NK{ρ:Env}{a:Act}{w:World}{fr:List (Nat×SV)}{nt:NT}(ha:HA fr nt ρ a){o:Oper}{f:Nat}{az:List SV}(h:yX (look fr) o=some (f,az))
  {fd:Func} (hf:P.funcs[f]? =some fd) (hn:(fd.name== "runtime.NumGoroutine")=false) {c:Code} (hb:fd.body=some c):
  (execOp a.eval o).run P w= .ok (.enter f (SV.vals ρ az).toArray) w∧∀c,o.op≠ .defer c:=by
 unfold yX at h;split at h
 ·rename_i Z3 args argTypes hop;split at h
  ·rename_i f' caps WM h1 h2;cases h;have e1:=ej ha.eval h1;have e2:=jW ha.eval _ _ h2;have e3:Array.map a.eval args=(SV.vals ρ WM).toArray:=Array.ext' (by rw [Array.toList_map,e2]);refine⟨?_,fun c hc=>by rw [hop]at hc;cases hc⟩;simp only [execOp,hop,resolve,e1,SV.val,Deferred.ofValue,adL,ad_,adC,invoke,callFunc,e3];have MM: ¬fd.name= "runtime.NumGoroutine" :=by simpa using hn
   simp [hf,MM,hb,vN]
  ·cases h
 ·cases h
theorem QD{ρ:Env}{a:Act}{w:World}{fr:List (Nat×SV)}{nt:NT}(ha:HA fr nt ρ a){o:Oper}{f:Nat}{az:List SV}(h:yX (look fr) o=some (f,az)):
  (execOp a.eval o).run P w=(callFunc f (SV.vals ρ az).toArray).run P w∧∀c,o.op≠ .defer c:=by
 unfold yX at h;split at h
 ·rename_i Z3 args argTypes hop;split at h
  ·rename_i f' caps WM h1 h2;cases h;have e1:=ej ha.eval h1;have e2:=jW ha.eval _ _ h2;have e3:Array.map a.eval args=(SV.vals ρ WM).toArray:=Array.ext' (by rw [Array.toList_map,e2]);refine⟨?_,fun c hc=>by rw [hop]at hc;cases hc⟩;simp only [execOp,hop,resolve,e1,SV.val,Deferred.ofValue,adL,ad_,adC,invoke,e3,vN];simp
  ·cases h
 ·cases h
theorem I3{ro:Option Nat}{n:Nat}{f:FuncId}{args:Array Value}{w:World}{R:Ending→World→Prop}(h:Calls P f args w R):CallsIn (FW ro) n P f args w R:=by
 have:CallsIn Fence.wide n P f args w R:=callsIn_wide.2 h;exact this
theorem NL{ro:Option Nat}{n:Nat}{f:FuncId}{args:Array Value}{w:World}{R:Ending→World→Prop}(h:CallsIn (FW none) n P f args w R):CallsIn (FW ro) n P f args w R:=h
theorem y9{fn:Func}{tmps:Array Value}{R:Ending→World→Prop}{u:FrameMode}(hu:u≠ .run){r:List Deferred}{i:Nat}: ∀{l:List Nat} {hs:List HP} {w:World},hs[i]? =some (kd l)→bG (hs++Fs) w→
  (∀w',bG (hs.set i HP.emp++Fs) w'→fE w w'→LeavesInM (FW none) 0 P fn tmps R r u w')→LeavesInM (FW none) 0 P fn tmps R (l.map (fun b=>{target:= .collected b,args:= #[]})++r) u w
 | [],hs,w,hi,ho,hk=>by
  obtain⟨S,hS⟩:=ho;refine hk w ?_ (fE.refl w);have dD:=hS.at_ i _ (by rw [adz (adu.1 hi).1];exact hi);exact bG.step hS i _ _ hi rfl (fun _=>False) (Nat.le_refl _) (fun _ _ _=>rfl) (fun k hk=>hk) (fun k hk=>hk.elim)
 | b::l,hs,w,hi,ho,hk=>by
  obtain⟨S,hS⟩:=ho;have bP:=(adu.1 hi).1;have dD:=hS.at_ i _ (by rw [adz bP];exact hi);obtain⟨⟨p1,p2,p3⟩,p4⟩:=dD;have kf:w.heap[b]? =some (.deferred (some [])):=p3 b ady;have Z4:=(List.nodup_cons.1 p2);refine⟨hu,.inl ⟨b,w.putObj b (.deferred none),rfl,run_takeDeferred kf,?_⟩⟩;have cr:bG (hs.set i (kd l)++Fs) (w.putObj b (.deferred none)):=by
   refine bG.step hS i _ _ hi rfl (fun k=>k∈l) (by simp [World.putObj]) (fun k hk hn=>?_) ⟨fun k=>Iff.rfl,Z4.2,fun k hk=>?_⟩ (fun k hk=> .inl ((p1 k).2 (adB _ hk)))
   ·exact World.putObj_heap_other (fun e=>hn ((p1 k).2 (by rw [e];exact ady)))
   ·rw [World.putObj_heap_other (fun e=>Z4.1 (by rw [←e];exact hk))];exact p3 k (adB _ hk)
  refine y9 hu (l:=l) (hs:=hs.set i (kd l)) (by rw [List.getElem?_set_self bP]) cr fun w' HY rK=>?_
  rw [List.set_set]at HY;exact hk w' HY ((show fE w (w.putObj b (.deferred none))from⟨rfl,rfl,rfl,by simp⟩).trans rK)
theorem pQ{fn:Func}{tmps:Array Value}{R:Ending→World→Prop}{u:FrameMode}(hu:u≠ .run){ρ:Env}: ∀{ds:List MK} {hp kM:List Ck} {w:World},leave hp ds=some kM→bG (hp.map (Ck.den ρ)++Fs) w→
  (∀w',bG (kM.map (Ck.den ρ)++Fs) w'→fE w w'→LeavesInM (FW none) 0 P fn tmps R [] u w')→LeavesInM (FW none) 0 P fn tmps R (marks ρ ds) u w
 | [],hp,kM,w,h,ho,hk=>by
  simp only [leave,adv]at h;subst h;exact hk w ho (fE.refl w)
 | .many d::ds,hp,kM,w,h,ho,hk=>by
  unfold leave at h;split at h
  ·rename_i i hi;rw [List.findIdx?_eq_some_iff_getElem]at hi;obtain⟨bP,hd,_⟩:=hi;have zT:hp[i]? =some (.qu d):=by
    cases hc:hp[i]with
    | qu b=>
     rw [hc]at hd;simp only [Ck.uq,beq_iff_eq]at hd;subst hd;rw [ad8 bP,hc]
    | _=>rw [hc]at hd;simp [Ck.uq]at hd
   have JK:(hp.map (Ck.den ρ))[i]? =some (kd (oS (ρ.bv.getD d 0))):=by rw [List.getElem?_map,zT];rfl
   rw [show marks ρ (.many d::ds)=(oS (ρ.bv.getD d 0)).map (fun b=>{target:= .collected b,args:= #[]})++marks ρ ds by simp only [marks,List.flatMap_cons,MK.blocks,List.map_append]];refine y9 hu JK ho fun w' HY rK=>?_
   have Wo:bG ((hp.set i .emp).map (Ck.den ρ)++Fs) w':=by rw [List.map_set];exact HY
   exact pQ hu h Wo fun w2 h2 YZ=>hk w2 h2 (rK.trans YZ)
  ·cases h
 | .one d::ds,hp,kM,w,h,ho,hk=>by
  unfold leave at h;split at h
  ·rename_i i hi;rw [List.findIdx?_eq_some_iff_getElem]at hi;obtain⟨bP,hd,_⟩:=hi;have zT:hp[i]? =some (.JH d):=by
    cases hc:hp[i]with
    | JH b=>
     rw [hc]at hd;simp only [Ck.Ba,beq_iff_eq]at hd;subst hd;rw [ad8 bP,hc]
    | _=>rw [hc]at hd;simp [Ck.Ba]at hd
   obtain⟨S,hS⟩:=ho;have JK:(hp.map (Ck.den ρ))[i]? =some (xj (ρ.bv.getD d 0)):=by rw [List.getElem?_map,zT];rfl
   have dD:=hS.at_ i _ (by rw [adz (by simpa using bP)];exact JK);have kf:w.heap[ρ.bv.getD d 0]? =some (.deferred (some [])):=dD.1.2;have s_:ρ.bv.getD d 0<w.heap.size:=(adD.1 kf).1;refine⟨hu,.inl ⟨ρ.bv.getD d 0,w.putObj (ρ.bv.getD d 0) (.deferred none),rfl,run_takeDeferred kf,?_⟩⟩;have cr:bG ((hp.set i .emp).map (Ck.den ρ)++Fs) (w.putObj (ρ.bv.getD d 0) (.deferred none)):=by
    rw [List.map_set];refine bG.step hS i _ _ JK rfl (fun _=>False) (by simp [World.putObj]) (fun k hk hn=>?_) (fun k hk=>hk) (fun k hk=>hk.elim);exact World.putObj_heap_other (fun e=>hn ((dD.1.1 k).2 e))
   refine pQ hu h cr fun w' HY rK=>hk w' HY ((show fE w (w.putObj (ρ.bv.getD d 0) (.deferred none))from⟨rfl,rfl,rfl,by simp⟩).trans rK)
  ·cases h
theorem y_{c:cG}: ∀{ds:List MK} {hp kM:List Ck},leave hp ds=some kM→hp.all (Ck.sc c)=true→kM.all (Ck.sc c)=true
 | [],hp,kM,h,hs=>by simp only [leave,adv]at h;subst h;exact hs
 | .many d::ds,hp,kM,h,hs=>by
  unfold leave at h;split at h
  ·refine y_ h (adt.2 fun x hx=>?_);rcases ad6 hx with hx | rfl
   ·exact adt.1 hs x hx
   ·rfl
  ·cases h
 | .one d::ds,hp,kM,h,hs=>by
  unfold leave at h;split at h
  ·refine y_ h (adt.2 fun x hx=>?_);rcases ad6 hx with hx | rfl
   ·exact adt.1 hs x hx
   ·rfl
  ·cases h
theorem my{fd:Func}{R:Ending→World→Prop}{st cT:St}{ρ:Env}{a:Act}{w:World}(h:lR st=some cT)(hw:HW Fs w0 st ρ w)(ha:HA st.fr st.nt ρ a)
  (hk: ∀w',HW Fs w0 cT ρ w'→∃v,(results fd a.tmps).run P w'= .ok v w'∧R (.returned v) w'):LeavesInM (FW none) 0 P fd a.tmps R a.defers .returning w:=by
 unfold lR at h;rw [adw]at h;obtain⟨kM,hl,rfl⟩:=h;rw [ha.defers];refine pQ (by simp) hl hw.own fun w' ho rK=>?_
 obtain⟨v,h1,h2⟩:=hk w' ⟨hw.lens,hw.j9,y_ hl hw.fy,hw.mH,hw.kn,ho,hw.same.trans rK,hw.kP⟩;exact⟨v,h1,h2⟩
theorem FI(hT:bC P C.T=true){n:Nat}(u7:pk P C ax Fs w0 n){c:Code}{fd:Func}{f:Nat}(hf:P.funcs[f]? =some fd)(hb:fd.body=some c){k:List KI}{st:St}{ρ:Env}{L:Nat→LC}{w:World}{az:List SV}{fn:Nat}{nt:NT}{fr:List (Nat×SV)}{d:Option Nat}
  (hv:VC P ax (run C n (.code c:: .call fn nt fr d fd::k) (eT st f ⟨fd.ntmps,[]⟩ (dM 0 az))) ρ L) (iA:SV.oE st.aX az=true) (hw:HW Fs w0 st ρ w) (hrf: ∀l r fn nt fr ps x y fd,KI.rf l r fn nt fr ps x y fd∈k→∃u_ c0,fg u_ c0∧Env.Le u_ ρ∧kF c0 fr=true∧r<c0.r∧(u_.lr.getD r gJ).params=ps∧(u_.lr.getD r gJ).assign=x∧(u_.lr.getD r gJ).body=y∧HA fr ⟨nt.n,[]⟩ u_ {tmps:=(u_.lr.getD r gJ).tmps,defers:=[]}) {R:Ending→World→Prop}
  (hR: ∀v w' m cT bE L',m<n→Env.Le ρ bE→(∀j,j<nl k→L' j=L j)→HW Fs w0 cT bE w'→v.sc cT.aX=true→pj (eT cT fn nt fr) d=true→
   VC P ax (run C m k ((eT cT fn nt fr).put d v)) bE L'→R (.returned (v.val bE)) w'):
  CallsIn (FW none) 0 P f (SV.vals ρ az).toArray w R:=by
 refine callsIn_of_wp_marks hf hb trivial ?_ rfl;have UI:HW Fs w0 (eT st f ⟨fd.ntmps,[]⟩ (dM 0 az)) ρ w:=⟨hw.lens,wC az 0 iA,hw.fy,hw.mH,hw.kn,hw.own,hw.same,rfl⟩;refine wpIn_mono (u7 none c _ _ ρ L _ w hv UI (yg az fd.ntmps) ⟨fun l r fn nt fr ps x y fd hm=>hrf l r fn nt fr ps x y fd (by simpa using hm),rfl⟩) ?_;have key: ∀a' w',At P C ax Fs w0 n (.call fn nt fr d fd::k) ρ L a' w'→LeavesInM (FW none) 0 P fd a'.tmps R a'.defers .returning w':=by
  intro a' w' ⟨m,hm,cT,bE,L',h1,h2,h3,h4,h5⟩;cases m with
  | zero=>exact h5.elim
  | succ m=>
   simp only [run]at h5;split at h5
   case h_2=>exact h5.elim
   rename_i Eg H5;have L0:Eg.fr=cT.fr∧Eg.nt=cT.nt∧Eg.aX=cT.aX:=by
    unfold lR at H5;rw [adw]at H5;obtain⟨kM,_,rfl⟩:=H5;exact⟨rfl,rfl,rfl⟩
   split at h5
   ·rename_i v hv;split at h5
    ·rename_i hc;simp only [ai]at hc;refine my H5 h3 h4 fun w2 Ei=>?_
     refine⟨_,nV hT Ei (nt:=cT.nt) (by rw [L0.1];exact h4) hv,hR v w2 m Eg bE L' (by omega) h1 h2 Ei hc.2 hc.1 h5⟩
    ·exact h5.elim
   ·exact h5.elim
 intro e a' w' hq;obtain⟨k',hk,dD⟩:=hq;cases e with
 | normal=>cases hk;exact key a' w' dD
 | ret=>cases hk;exact key a' w' dD
 | exit id=>cases hk
 | goto l=>cases hk
 | panic l=>cases hk
 | outgrown=>cases hk
theorem sC{st:St}{d:Option Nat}(h:pj st d=true): ∀x,d=some x→x<st.nt.n:=by
 intro x hx;subst hx;simpa [pj,adK] using h
theorem rH{hp:List Ck}{l i r:Nat}{s:RS}{j:Jump}(h:recAt hp l=some (i,r,s,j)):hp[i]? =some (.kg l r s j):=by
 unfold recAt at h;split at h
 ·rename_i q hq;split at h
  ·rename_i l' r' s' j' hg;cases h;rw [List.findIdx?_eq_some_iff_getElem]at hq;obtain⟨bP,hd,_⟩:=hq;rw [ad8 bP,adv]at hg;rw [hg]at hd;simp only [Ck.isRec,beq_iff_eq]at hd;subst hd;rw [ad8 bP,hg]
  ·cases h
 ·cases h
theorem sY{l:Nat}: ∀{k:List KI} {r fn:Nat} {nt:NT} {fr:List (Nat×SV)} {ps:Array Tmp} {x y:Code},qn l k=some (r,fn,nt,fr,ps,x,y)→∃fd,KI.rf l r fn nt fr ps x y fd∈k
 | [],_,_,_,_,_,_,_,h=>by cases h
 | i::k,r,fn,nt,fr,ps,x,y,h=>by
  have go:qn l k=some (r,fn,nt,fr,ps,x,y)→∃fd,KI.rf l r fn nt fr ps x y fd∈i::k:=fun h'=>by
   obtain⟨fd,hm⟩:=sY h';exact⟨fd,adB _ hm⟩
  cases i with
  | rf l' r' fn' wL FQ Wq x' y' UM=>
   unfold qn at h;split at h
   ·rename_i hl;rw [beq_iff_eq]at hl;cases h;subst hl;exact⟨UM,ady⟩
   ·exact go h
  | _=>exact go h
theorem kQ{st:St}{ρ:Env}{w:World}(hw:HW Fs w0 st ρ w){l i r:Nat}{s:RS}{j:Jump}(h:recAt st.hp l=some (i,r,s,j)):
  w.heap[ρ.bv.getD l 0]? =some (.loop {ρ.lr.getD r gJ with state:=s.st,pending:=j.code}):=by
 obtain⟨S,hS⟩:=hw.own;have hi:=rH h;have bP:=(adu.1 hi).1;exact(hS.at_ i ((Ck.kg l r s j).den ρ) (by rw [adz (by simpa using bP),List.getElem?_map,hi];rfl)).1.2
theorem B8{st:St}{ρ:Env}{w:World}(hw:HW Fs w0 st ρ w){l i r:Nat}{s:RS}{j:Jump}(h:recAt st.hp l=some (i,r,s,j))(s':RS)(j':Jump):
  HW Fs w0 {st with hp:=st.hp.set i (.kg l r s' j')} ρ (w.putObj (ρ.bv.getD l 0) (.loop {ρ.lr.getD r gJ with state:=s'.st,pending:=j'.code})):=by
 have hi:=rH h;have hb:=kQ hw h;have s_:ρ.bv.getD l 0<w.heap.size:=(adD.1 hb).1;have bP:=(adu.1 hi).1;obtain⟨S,hS⟩:=hw.own;have JK:(st.hp.map (Ck.den ρ))[i]? =some ((Ck.kg l r s j).den ρ):=by rw [List.getElem?_map,hi];rfl
 have dD:=hS.at_ i _ (by rw [adz (by simpa using bP)];exact JK);have iA:=adt.1 hw.fy _ (ad3 hi);refine⟨hw.lens,hw.j9,adt.2 fun q hq=>?_,hw.mH,hw.kn,?_,hw.same.trans ⟨rfl,rfl,rfl,by simp⟩,hw.kP⟩
 ·rcases ad6 hq with hq | rfl
  ·exact adt.1 hw.fy q hq
  ·exact iA
 ·show bG ((st.hp.set i (.kg l r s' j')).map (Ck.den ρ)++Fs) _;rw [List.map_set];refine bG.step hS i _ _ JK rfl (S i) (by simp) (fun k hk hn=>World.putObj_heap_other (fun e=>hn ((dD.1.1 k).2 e))) ⟨dD.1.1,?_⟩ (fun k hk=> .inl hk);exact World.putObj_heap_same s_
theorem sZ{ρ:Env}: ∀{l:List (Nat×SV)} {st kL:St} {a:Act} {w:World},ko st l=some kL→HW Fs w0 st ρ w→HA st.fr st.nt ρ a→
  HW Fs w0 kL ρ w∧HA kL.fr kL.nt ρ (l.foldl (fun a x=>a.put (some x.1) (x.2.val ρ)) a)∧kL.aX=st.aX∧kL.hp=st.hp
 | [],st,kL,a,w,h,hw,ha=>by
  simp only [ko,adv]at h;subst h;exact⟨hw,ha,rfl,rfl⟩
 | (d,v)::r,st,kL,a,w,h,hw,ha=>by
  unfold ko at h;split at h
  ·rename_i hc;rw [ai]at hc;have tQ:=ha.put (d:=some d) (v:=v) (u:=v.val ρ) (sC hc.1) rfl st rfl;have e:=dG st (some d) v;obtain⟨h1,h2,h3,h4⟩:=sZ h (hw.put hc.2) (by rw [e.2.2.2.1];exact tQ);exact⟨h1,h2,h3.trans e.2.1,h4.trans e.1⟩
  ·cases h
theorem KG{ρ:Env}{a:Act}{w:World}{fr:List (Nat×SV)}{nt:NT}(ha:HA fr nt ρ a){o:Oper}{l:Nat}{az:List SV}(h:Nt (look fr) o=some (l,az)){r:Loop}(hb:w.heap[ρ.bv.getD l 0]? =some (.loop r))
  (hs:az.length=r.params.size):
  (execOp a.eval o).run P w= .ok (.round (ρ.bv.getD l 0) r.fn ((r.params.zip (SV.vals ρ az).toArray).foldl (fun tmps (t,a)=>tmps.setIfInBounds t a) r.tmps) r.assign r.body) w∧∀c,o.op≠ .defer c:=by
 unfold Nt at h;split at h
 ·rename_i Z3 args argTypes hop;split at h
  ·rename_i l' WM h1 h2;cases h;have e1:=ej ha.eval h1;have e2:=jW ha.eval _ _ h2;have e3:Array.map a.eval args=(SV.vals ρ az).toArray:=Array.ext' (by rw [Array.toList_map,e2]);refine⟨?_,fun c hc=>by rw [hop]at hc;cases hc⟩;have hlen: ∀l:List SV,(SV.vals ρ l).length=l.length:=by
    intro l;induction l with
    | nil=>rfl
    | cons x r ih=>simp [SV.vals,ih]
   have hy:=run_yield (P:=P) (args:=(SV.vals ρ az).toArray) hb (by simp [hlen,hs]);simp only [execOp,hop,resolve,e1,SV.val,Deferred.ofValue,adL,ad_,adC,invoke,e3,Array.empty_append];exact hy
  ·cases h
 ·cases h
theorem Hz{ρ:Env}(ps:Array Tmp)(az:List SV)(t:Array Value):
  (ps.toList.zip az).foldl (fun a x=>a.put (some x.1) (x.2.val ρ)) ({tmps:=t,defers:=[]}:Act)=
   {tmps:=(ps.zip (SV.vals ρ az).toArray).foldl (fun tmps (t,a)=>tmps.setIfInBounds t a) t,defers:=[]}:=by
 rw [←Array.foldl_toList,Array.toList_zip];generalize ps.toList=l
 induction l generalizing az t with
 | nil=>rfl
 | cons d l ih=>
  cases az with
  | nil=>rfl
  | cons v az=>
   simp only [List.zip_cons_cons,List.foldl_cons,SV.vals];exact ih az _
theorem Eo(hT:bC P C.T=true)(AB:bL P C.FT)(Em:fI P C){n:Nat}(u7: ∀m,m<n→pk P C ax Fs w0 m)(KV: ∀m,m<n→rm P C ax Fs w0 m):rm P C ax Fs w0 n:=by
 intro ro all r k st ρ L a w hv hw ha fh;cases n with
 | zero=>exact hv.elim
 | succ n=>
  have hn:n<n+1:=Nat.lt_succ_self n;have up: ∀{e:Exit} {a:Act} {w:World} {bE:Env} {L':Nat→LC},Env.Le ρ bE→(∀j,j<nl k→L' j=L j)→QK P C ax Fs w0 n k bE L' e a w→QK P C ax Fs w0 (n+1) k ρ L e a w:=fun h1 h2 hq=>hq.mono (aec n) h1 h2
  cases r with
  | nil=>
   simp only [run]at hv;exact QK.here hn rfl hv hw ha
  | cons o r=>
   simp only [run]at hv;split at hv
   case isFalse=>exact hv.elim
   rename_i vV;have hd:=sC vV;have hd0:=hd;have next: ∀{m:Nat} (cT:St) (v:SV) (u:Value) (bE:Env) (L':Nat→LC) (w':World),m≤n→Env.Le ρ bE→(∀j,j<nl k→L' j=L j)→cT.fr=st.fr→cT.nt=st.nt→HW Fs w0 cT bE w'→v.sc cT.aX=true→u=v.val bE→
     VC P ax (run C m (.ops all r::k) (cT.put o.dst v)) bE L'→wpListIn (FW ro) 0 P all (QK P C ax Fs w0 (n+1) k ρ L) r (a.put o.dst u) w':=by
    intro m cT v u bE L' w' hm h1 h2 QV BX h3 h4 h5 h6;have dQ:=Env.Le.agree hw.lens h1;have tQ:=(ha.more hw.j9 hw.kP dQ).put (d:=o.dst) (v:=v) (u:=u) hd h5 cT QV;have:=KV m (by omega) ro all r k _ bE L' (a.put o.dst u) w' h6 (h3.put h4) (by rw [(dG cT o.dst v).2.2.2.1,BX];exact tQ) (fh.le h1);exact eD (fun e a w hq=>hq.mono (by omega) h1 h2) this
   have za: ∀{m:Nat} (v:SV) (u:Value),m≤n→v.sc st.aX=true→u=v.val ρ→VC P ax (run C m (.ops all r::k) (st.put o.dst v)) ρ L→wpListIn (FW ro) 0 P all (QK P C ax Fs w0 (n+1) k ρ L) r (a.put o.dst u) w:=
    fun v u hm h1 h2 h3=>next st v u ρ L w hm (Env.Le.refl _) (fun _ _=>rfl) rfl rfl hw h1 h2 h3
   unfold wpListIn;split at hv
   ·exact hv.elim
   ·
    rename_i hg;have ll:=jJ ha hw.kn hg;simp only [mv,BE.den]at ll;rw [if_neg (by rw [ll];simp)];exact⟨fun _ _=>trivial,za .undef undef (Nat.le_refl _) rfl rfl hv⟩
   ·
    rename_i c dF hg;have ll:=jJ ha hw.kn hg;simp only [mv]at ll;split at hv
    case isFalse=>exact hv.elim
    rename_i mG;have fork:VC P ax (.fork c (run C n (.ops all ({o with guard:=none}::r)::k) (st.Ho c)) (run C n (.ops all r::k) ((st.qw c).put o.dst .undef))) ρ L→
      (if Region.wanted o (yielded all a.tmps)=true then o.wpIn (FW ro) 0 P a w (wpListIn (FW ro) 0 P all (QK P C ax Fs w0 (n+1) k ρ L) r) (QK P C ax Fs w0 (n+1) k ρ L)
       else(∀f,o.about P w a.eval=some f→(FW ro).fn f)∧wpListIn (FW ro) 0 P all (QK P C ax Fs w0 (n+1) k ρ L) r (a.put o.dst undef) w):=by
     intro hf;simp only [VC,aZ]at hf;rw [ll];cases hd:c.den ρ with
     | true=>
      rw [if_pos rfl];have wv:HW Fs w0 (st.Ho c) ρ w:=by
       have:=hw.know ((BE.bX ρ c).1 hd) mG;refine⟨this.lens,adt.2 fun x hx=>?_,this.fy,this.mH,this.kn,this.own,this.same,this.kP⟩;obtain⟨y,hy,rfl⟩:=List.mem_map.1 hx;exact SV.Tp (adt.1 hw.j9 y hy)
      have h1:=KV n hn ro all ({o with guard:=none}::r) k (st.Ho c) ρ L a w (hf.1 ((BE.bX ρ c).1 hd)) wv (HA.Ho ha hd) fh;unfold wpListIn at h1;rw [if_pos (by simp [Region.wanted])]at h1;exact zY (Oper.xX (fun a w h=>eD (fun e a w hq=>up (Env.Le.refl _) (fun _ _=>rfl) hq) h) (fun e a w hq=>up (Env.Le.refl _) (fun _ _=>rfl) hq) h1)
     | false=>
      rw [if_neg (by simp)];have Ei:HW Fs w0 (st.qw c) ρ w:=by
       have:=hw.know (b:=iO c) (by rw [←BE.bX,cX,hd];rfl) (CW mG);refine⟨this.lens,adt.2 fun x hx=>?_,this.fy,this.mH,this.kn,this.own,this.same,this.kP⟩;obtain⟨y,hy,rfl⟩:=List.mem_map.1 hx;exact SV.QC (adt.1 hw.j9 y hy)
      have TN:=(HA.qw ha hd).put (d:=o.dst) (v:= .undef) (u:=undef) hd0 rfl (st.qw c) rfl;have:=KV n hn ro all r k _ ρ L (a.put o.dst undef) w (hf.2 fun h=>by rw [←BE.bX,hd]at h;cases h) (Ei.put rfl) (by rw [(dG (st.qw c) o.dst .undef).2.2.2.1];exact TN) fh;exact⟨fun _ _=>trivial,eD (fun e a w hq=>hq.mono (by omega) (Env.Le.refl _) fun _ _=>rfl) this⟩
    split at hv
    ·rename_i res Ef;obtain⟨Ed,JL⟩:=kG Ef;split at hv
     ·rename_i Pf;obtain⟨bV,hv⟩:=gE hw.kn hv;simp only [mv]at bV;rw [ll];have iA:=JL;simp only [gx.sc,ai,Pf,zD.grow]at iA;cases hd:c.den ρ with
      | true=>
       rw [if_pos rfl];obtain⟨S,hS⟩:=hw.own;have hD:=ph (P:=P) hT (Env.ok ρ) (ha.tR hw.kn (g:=some c) hd) Ed (yf S hS _) (bV hd) hw.lens.b;unfold Did at hD;rw [Pf]at hD;refine lQ (tS Ed) (.inl hD) ?_;refine za (.opt c res.val) _ (Nat.le_refl _) ?_ ?_ hv
       ·simp only [SV.sc,ai];exact⟨mG,iA.1.1⟩
       ·simp only [SV.val,hd,if_true]
      | false=>
       rw [if_neg (by simp)];refine⟨fun _ _=>trivial,za (.opt c res.val) undef (Nat.le_refl _) ?_ ?_ hv⟩
       ·simp only [SV.sc,ai];exact⟨mG,iA.1.1⟩
       ·simp [SV.val,hd]
     ·exact fork hv
    ·exact fork hv
   ·
    rename_i hg;have ll:=jJ ha hw.kn hg;simp only [mv]at ll;rw [if_pos ll];split at hv
    ·rename_i res Ef;obtain⟨Ed,JL⟩:=kG Ef;obtain⟨bV,hv⟩:=gE hw.kn hv;have bV:=bV rfl;obtain⟨S,hS⟩:=hw.own;have hD:=ph (P:=P) hT (Env.ok ρ) (ha.tR hw.kn (g:=none) rfl) Ed (yf S hS _) bV hw.lens.b;have qt:VC P ax (V0 res.gg (run C n (.ops all r::k) (({cR st res.gg with known:=more res.vcs st.known}:St).put o.dst res.val))) ρ L:=by
      cases he:res.gg<;>rw [he]at hv<;>exact hv
     obtain⟨u,w',bE,gO,hle,UI,hu,Y0,FL⟩:=NF hw hS hD JL bV qt;refine lQ (tS Ed) gO ?_;obtain⟨e1,e2,e3,e4,e5⟩:=zW st res.gg;exact next {cR st res.gg with known:=more res.vcs st.known} res.val u bE L w' (Nat.le_refl _) hle (fun _ _=>rfl) e1 e2 UI (by rw [show({cR st res.gg with known:=more res.vcs st.known}:St).aX=(cR st res.gg).aX from rfl,e5];exact Y0) hu FL
    ·split at hv
     ·rename_i f az po;split at hv
      ·exact hv.elim
      ·rename_i fd yh;have Gx:=List.mem_of_find?_eq_some yh;have Gi:=List.find?_some yh;simp only [beq_iff_eq]at Gi;obtain⟨hf,Ek⟩:=AB _ Gx;simp only at hf Ek;rw [Gi]at hf;split at hv
       ·split at hv
        case h_2=>exact hv.elim
        rename_i ca WW;split at hv
        case isFalse=>exact hv.elim
        rename_i iA;simp only [ai,decide_eq_true_eq]at iA;obtain⟨⟨⟨jT,vW⟩,jL⟩,zO⟩:=iA;have bP: ∀i∈ca.use az st.hp,i<st.hp.length:=fun i hi=>by simpa [adK] using adt.1 jL i hi
        simp only [VC]at hv;obtain⟨post,zb,NM⟩:=hv;have cr:=bG.sv (acc:=[]) (use:=ca.use az st.hp) (by simpa using hw.own) zO (by simpa using bP);have Hy:((ca.use az st.hp).map fun i=>st.hp.getD i .emp).map (Ck.den ρ)=(ca.use az st.hp).map (fun i=>(st.hp.map (Ck.den ρ)).getD i HP.emp):=by
         rw [List.map_map];refine List.map_congr_left fun i hi=>?_
         have:=bP i hi;simp [this]
        rw [List.nil_append,←Hy]at cr;obtain⟨v,hs,w',hR,hp,y8,m9⟩:=zb w _ cr;obtain⟨gO,fQ⟩:=QD (P:=P) (w:=w) ha po;have hx:=NM v hs hp;rw [jB]at hx;obtain⟨e2,q9,rfl,rfl,FL⟩:=hx;have hle:=Env.fG ρ e2;have dQ:=Env.Le.agree hw.lens hle;refine lQ fQ (.inl (gO.trans hR)) ?_;refine next {st with hp:=eP st.hp (ca.use az st.hp) (ca.new st.aX ((ca.use az st.hp).map fun i=>st.hp.getD i .emp)),aX:=st.aX.add ca.inc} (ql ca az st.hp st.aX) _ (ρ.ext e2) L w' (Nat.le_refl _) hle (fun _ _=>rfl) rfl rfl ?_ jT rfl FL;refine⟨hw.lens.ext q9,cq (cG.jD _ _) hw.j9,?_,er (cG.jD _ _) hw.mH,fun b hb=>?_,?_,hw.same.trans m9,cP (cG.jD _ _) hw.kP⟩
        ·exact kS _ _ rfl _ _ _ (g9 (cG.jD _ _) hw.fy) vW
        ·exact(BE.fL dQ (adt.1 hw.mH b hb)).1 (hw.kn b hb)
        ·have h1:=bG.ko (use:=ca.use az st.hp) y8 (fun i hi=>by rw [kE];simpa using bP i hi) fun _ _=> .inr trivial
         rw [←iq _ _ _ zO,jA dQ hw.fy]at h1;simp only [eP];rw [kO];exact h1
       ·rename_i c hb;obtain⟨gO,fQ⟩:=NK (P:=P) (w:=w) ha po hf Ek hb;refine⟨fun _ _=>trivial,?_⟩;rw [Oper.semAt_eq _ _ _ fQ,gO,Oper.uponIn_enter];refine⟨fun h=>(by cases h),?_⟩;split at hv
        ·rename_i r0 Y1;split at hv
         case isFalse=>exact hv.elim
         rename_i iA;simp only [ai,decide_eq_true_eq]at iA;obtain⟨⟨⟨jT,vW⟩,jL⟩,zO⟩:=iA;obtain⟨bV,hv⟩:=gE hw.kn hv;have bP: ∀i∈r0.use,i<st.hp.length:=fun i hi=>by simpa [adK] using adt.1 jL i hi
         have zb:=Em f az st.hp r0 ρ Y1 (bV rfl);have cr:=bG.sv (acc:=[]) (use:=r0.use) (by simpa using hw.own) zO (by simpa using bP);have Hy:(r0.use.map fun i=>st.hp.getD i .emp).map (Ck.den ρ)=r0.use.map (fun i=>(st.hp.map (Ck.den ρ)).getD i HP.emp):=by
          rw [List.map_map];refine List.map_congr_left fun i hi=>?_
          have:=bP i hi;simp [this]
         rw [List.nil_append,←Hy]at cr;refine I3 ?_;have hc:=zb w _ cr;intro cs;obtain⟨e,w',FQ,hR,NN,WL,HB⟩:=hc cs;refine⟨e,w',FQ,?_,NN,WL,HB⟩;obtain⟨x,hs,rfl,⟨hx,rfl⟩,y8,m9⟩:=hR;subst hx;refine next {st with hp:=eP st.hp r0.use r0.new} r0.val _ ρ L w' (Nat.le_refl _) (Env.Le.refl _) (fun _ _=>rfl) rfl rfl ⟨hw.lens,hw.j9,?_,hw.mH,hw.kn,?_,hw.same.trans m9,hw.kP⟩ jT rfl hv
         ·exact kS _ _ rfl _ _ _ hw.fy vW
         ·have h1:=bG.ko (use:=r0.use) y8 (fun i hi=>by rw [kE];simpa using bP i hi) fun _ _=> .inr trivial
          rw [←iq _ _ _ zO]at h1;simp only [eP];rw [kO];exact h1
        split at hv
        ·rename_i ca WW;split at hv
         case isFalse=>exact hv.elim
         rename_i iA;simp only [ai,decide_eq_true_eq]at iA;obtain⟨⟨⟨jT,vW⟩,jL⟩,zO⟩:=iA;have bP: ∀i∈ca.use az st.hp,i<st.hp.length:=fun i hi=>by simpa [adK] using adt.1 jL i hi
         simp only [VC]at hv;obtain⟨post,zb,NM⟩:=hv;have cr:=bG.sv (acc:=[]) (use:=ca.use az st.hp) (by simpa using hw.own) zO (by simpa using bP);have Hy:((ca.use az st.hp).map fun i=>st.hp.getD i .emp).map (Ck.den ρ)=(ca.use az st.hp).map (fun i=>(st.hp.map (Ck.den ρ)).getD i HP.emp):=by
          rw [List.map_map];refine List.map_congr_left fun i hi=>?_
          have:=bP i hi;simp [this]
         rw [List.nil_append,←Hy]at cr;refine I3 ?_;have hc:=zb w _ cr;intro cs;obtain⟨e,w',FQ,hR,NN,WL,HB⟩:=hc cs;refine⟨e,w',FQ,?_,NN,WL,HB⟩;obtain⟨v,hs,rfl,hp,y8,m9⟩:=hR;have hx:=NM v hs hp;rw [jB]at hx;obtain⟨e2,q9,rfl,rfl,FL⟩:=hx;have hle:=Env.fG ρ e2;have dQ:=Env.Le.agree hw.lens hle;refine next {st with hp:=eP st.hp (ca.use az st.hp) (ca.new st.aX ((ca.use az st.hp).map fun i=>st.hp.getD i .emp)),aX:=st.aX.add ca.inc} (ql ca az st.hp st.aX) _ (ρ.ext e2) L w' (Nat.le_refl _) hle (fun _ _=>rfl) rfl rfl ?_ jT rfl FL;refine⟨hw.lens.ext q9,cq (cG.jD _ _) hw.j9,?_,er (cG.jD _ _) hw.mH,fun b hb=>?_,?_,hw.same.trans m9,cP (cG.jD _ _) hw.kP⟩
         ·exact kS _ _ rfl _ _ _ (g9 (cG.jD _ _) hw.fy) vW
         ·exact(BE.fL dQ (adt.1 hw.mH b hb)).1 (hw.kn b hb)
         ·have h1:=bG.ko (use:=ca.use az st.hp) y8 (fun i hi=>by rw [kE];simpa using bP i hi) fun _ _=> .inr trivial
          rw [←iq _ _ _ zO,jA dQ hw.fy]at h1;simp only [eP];rw [kO];exact h1
        ·split at hv
         case isFalse=>exact hv.elim
         rename_i iA;refine NL (FI hT (u7 n hn) hf hb hv iA hw (fun l r fn nt fr ps x y fd hm=>fh.rf l r fn nt fr ps x y fd (by simpa using hm)) ?_);intro v w' m cT bE L' hm h1 h2 h3 h4 h5 h6;have dF:=fg.le hw.lens h3.lens h1;have H2:HW Fs w0 (eT cT st.fn st.nt st.fr) bE w':=⟨h3.lens,cq dF hw.j9,h3.fy,h3.mH,h3.kn,h3.own,h3.same,cP dF hw.kP⟩;exact next (eT cT st.fn st.nt st.fr) v _ bE L' w' (Nat.le_of_lt hm) h1 h2 rfl rfl H2 h4 rfl h6
     ·split at hv
      case h_2=>exact hv.elim
      rename_i l az UB;split at hv
      case h_2=>exact hv.elim
      rename_i rr fn nt fr ps x y i' r' s' j' yh Gz;split at hv
      case isFalse=>exact hv.elim
      rename_i hc;rw [ai,decide_eq_true_eq,beq_iff_eq]at hc;obtain⟨rfl,hlen⟩:=hc;split at hv
      case h_2=>exact hv.elim
      rename_i kL o5;obtain⟨fd,Gx⟩:=sY yh;obtain⟨u_,c0,k1,k2,k3,k4,k5,k6,k7,k8⟩:=fh.rf l rr fn nt fr ps x y fd Gx;have V5:=Env.Le.agree k1 k2;have hlr:u_.lr.getD rr gJ=ρ.lr.getD rr gJ:=V5.r _ k4;rw [hlr]at k5 k6 k7 k8;have kf:=kQ hw Gz;obtain⟨gO,fQ⟩:=KG (P:=P) ha UB kf (by rw [hlen,←k5]);refine⟨fun _ _=>trivial,?_⟩;rw [Oper.semAt_eq _ _ _ fQ,gO,Oper.uponIn_round];refine⟨fun h=>(by cases h),?_⟩;refine roundIn_of_wpIn trivial ?_;simp only [k5,k6,k7];have wv:HW Fs w0 (eT st fn ⟨nt.n,[]⟩ fr) ρ w:=⟨hw.lens,cq (fg.le k1 hw.lens k2) k3,hw.fy,hw.mH,hw.kn,hw.own,hw.same,rfl⟩;have GC:HA fr ⟨nt.n,[]⟩ ρ {tmps:=(ρ.lr.getD rr gJ).tmps,defers:=[]}:=k8.more k3 rfl V5;obtain⟨Ei,TN,Z5,_⟩:=sZ o5 wv GC;rw [Hz]at TN;have JT:FW ro=FW ro:=rfl;have WN:l<st.aX.b:=by
       have:=adt.1 hw.fy _ (ad3 (rH Gz));simp only [Ck.sc,ai,adK]at this;exact this.1
      have El:BZ ρ (.begin l:: .code y:: .round l st.fn st.nt st.fr o.dst:: .ops all r::k) (some (ρ.bv.getD l 0)):=
       ⟨fun l r fn nt fr ps x y fd hm=>fh.rf l r fn nt fr ps x y fd (by simpa using hm),⟨ρ,st.aX,hw.lens,Env.Le.refl _,WN,rfl⟩⟩
      refine wpIn_mono (u7 n hn (some (ρ.bv.getD l 0)) x _ kL ρ L _ w hv Ei TN El) ?_;intro e a1 w1 hq;obtain⟨k',mQ,m,hm,Eg,H4,L2,g1,g2,g3,g4,g5⟩:=hq;cases e with
      | normal=>
       cases mQ;cases m with
       | zero=>exact g5.elim
       | succ m=>
        simp only [run]at g5;split at g5
        case h_2=>exact g5.elim
        rename_i i2 r2 j2 Rv;have Rw:=kQ g3 Rv;have UK:H4.bv.getD l 0=ρ.bv.getD l 0:=((Env.Le.agree hw.lens g1).b l WN).symm;rw [UK]at Rw;refine⟨_,run_beginRound Rw rfl,?_⟩;have H2:=B8 g3 Rv .busy j2;rw [UK]at H2;cases m with
        | zero=>exact g5.elim
        | succ m=>
        have V6:BZ H4 (.round l st.fn st.nt st.fr o.dst:: .ops all r::k) (some (ρ.bv.getD l 0)):=
         ⟨fun l r fn nt fr ps x y fd hm=>(fh.le g1).rf l r fn nt fr ps x y fd (by simpa using hm),⟨ρ,st.aX,hw.lens,g1,WN,rfl⟩⟩
        refine wpIn_mono (u7 (m+1) (by omega) (some (ρ.bv.getD l 0)) y _ _ H4 L2 a1 _ g5 H2 g4 V6) ?_;have fin: ∀(j:Jump) (a3:Act) (w3:World),At P C ax Fs w0 (m+1) (.lf l j st.fn st.nt st.fr o.dst:: .ops all r::k) H4 L2 a3 w3→
          ∃v w',(Instr.endRound (ρ.bv.getD l 0) j.code).run P w3= .ok v w'∧wpListIn (FW ro) 0 P all (QK P C ax Fs w0 (n+1) k ρ L) r (a.put o.dst v) w':=by
         intro j a3 w3 ⟨m3,Ws,TP,V7,L3,q1,q2,q3,q4,q5⟩;cases m3 with
         | zero=>exact q5.elim
         | succ m3=>
          simp only [run]at q5;split at q5
          case h_2=>exact q5.elim
          rename_i i3 r3 s3 j3 Rx;split at q5
          case isFalse=>exact q5.elim
          rename_i acK;have KF:=g1.trans q1;have Ry:=kQ q3 Rx;have V8:V7.bv.getD l 0=ρ.bv.getD l 0:=((Env.Le.agree hw.lens KF).b l WN).symm;rw [V8]at Ry;refine⟨_,_,run_endRound j.code Ry,?_⟩;have L4:=B8 q3 Rx (if j= .none then .ready else .done) j;rw [V8]at L4;have dF:=fg.le hw.lens q3.lens KF;have hw5:HW Fs w0 (eT {TP with hp:=TP.hp.set i3 (.kg l r3 (if j= .none then .ready else .done) j)} st.fn st.nt st.fr) V7 _:=⟨L4.lens,cq dF hw.j9,L4.fy,L4.mH,L4.kn,L4.own,L4.same,cP dF hw.kP⟩;have:=next (eT {TP with hp:=TP.hp.set i3 (.kg l r3 (if j= .none then .ready else .done) j)} st.fn st.nt st.fr) (.bool (.lit (decide (j= .none)))) (.bool j.code.isNone) V7 L3 _ (by omega) KF
           (fun j hj=>(q2 j hj).trans (g2 j hj)) rfl rfl hw5 rfl (by cases j<;>rfl) q5
          cases j<;>exact this
        intro e3 a3 w3 hq3;obtain⟨k3',TQ,Tr⟩:=hq3;cases e3 with
        | normal=>
         cases TQ;refine fin .none a3 w3 ?_;obtain⟨m3,Ws,TP,V7,L3,q1,q2,q3,q4,q5⟩:=Tr;cases m3 with
         | zero=>exact q5.elim
         | succ m3=>exact⟨m3,by omega,TP,V7,L3,q1,q2,q3,q4,q5⟩
        | ret=>cases TQ;exact fin .ret a3 w3 Tr
        | exit id=>cases TQ;exact fin (.exit id) a3 w3 Tr
        | goto l=>cases TQ
        | panic l=>cases TQ
        | outgrown=>cases TQ
      | exit id=>cases mQ
      | ret=>cases mQ
      | goto l=>cases mQ
      | panic l=>cases mQ
      | outgrown=>cases mQ
end
end Go.RX
