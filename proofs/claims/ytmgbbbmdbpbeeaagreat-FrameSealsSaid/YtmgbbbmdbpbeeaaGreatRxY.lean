/- Executor. -/
import Derived.Test.YtmgbbbmdbpbeeaaGreatRxX
import Derived.RangeFuncNested
open Array renaming getD_eq_getD_getElem? → afi, getElem?_eq_some_iff → ae5
open Bool renaming and_eq_true → ai
open Go.Result renaming andThen_ok → ae3
open Go.Sem renaming run_bind → afa, run_pure → afs
open List renaming all_eq_true → aeT, getElem?_append_left → ae1, getElem?_eq_getElem → afA, getElem?_eq_some_iff → aeV, mem_cons_of_mem → ae4, mem_cons_self → aeZ, mem_of_getElem? → afr, mem_or_eq_of_mem_set → afv
open Nat renaming blt_eq → afb, le_succ → afE
open Option renaming map_eq_some_iff → aeY
open Option.some renaming injEq → aeX
namespace Go.RX
def fZ(P:Program)(C:Ctx):Prop:= ∀f az hp r (ρ:Env),Cx C f az hp=some r→(∀b∈r.vcs,b.prop ρ)→
 aw P f (SV.vals ρ az) ((r.use.map fun i=>hp.getD i .emp).map (Ck.den ρ)) fun x hs=>x=r.val.val ρ∧hs=r.new.map (Ck.den ρ)
theorem fZ.none{P:Program}{C:Ctx}(h:C.pure=fun _=>Option.none):fZ P C:=by
 intro f az hp r ρ hp;simp [Cx,h]at hp
def aX(P:Program)(FT:List (Nat×Func)):Prop:= ∀x∈FT,P.funcs[x.1]? =some x.2∧(x.2.name== "runtime.NumGoroutine")=false
section
variable {P:Program} {C:Ctx} {ar:Value→List HP→Prop} {Fs:List HP} {w0:World}
theorem vJ{ρ:Env}(a b:List SV):SV.vals ρ (a++b)=SV.vals ρ a++SV.vals ρ b:=by
 induction a with
 | nil=>rfl
 | cons x r ih=>simp only [List.cons_append,SV.vals,ih]
theorem Fv{ρ:Env}: ∀(l:List SV) (i:Nat),(SV.vals ρ l)[i]? =(l[i]?).map (SV.val ρ)
 | [],i=>by simp [SV.vals]
 | x::r,0=>by simp [SV.vals]
 | x::r,i+1=>by simp only [SV.vals,List.getElem?_cons_succ];exact Fv r i
theorem AY{ρ:Env}: ∀(l:List SV) (n s:Nat) (v:SV),look (ep n l) s=some v→n≤s∧l[s - n]? =some v
 | [],n,s,v,h=>by cases h
 | x::r,n,s,v,h=>by
  unfold ep look at h;split at h
  ·rename_i hs;rw [beq_iff_eq]at hs;subst hs;cases h;exact⟨Nat.le_refl _,by simp⟩
  ·rename_i hs;obtain⟨h1,h2⟩:=AY (ρ:=ρ) r (n+1) s v h;refine⟨by omega,?_⟩;rw [show s - n=(s - (n+1))+1 by omega,List.getElem?_cons_succ];exact h2
theorem wE{c:cP}: ∀(l:List SV) (n:Nat),SV.oK c l=true→kH c (ep n l)=true
 | [],n,_=>rfl
 | x::r,n,h=>by
  simp only [SV.oK,ai]at h;simp only [ep,kH,List.all_cons,ai];exact⟨h.1,wE r (n+1) h.2⟩
theorem xY{ρ:Env}(az:List SV)(nt:Nat):HA (ep 0 az) ⟨nt,[]⟩ ρ {tmps:=(SV.vals ρ az).toArray++Array.replicate (nt - (SV.vals ρ az).toArray.size) undef,defers:=[]}:=by
 refine⟨rfl,by simp;omega,fun s v hs=>?_⟩;obtain⟨_,h2⟩:=AY (ρ:=ρ) az 0 s v hs;rw [Nat.sub_zero]at h2;have h3:(SV.vals ρ az)[s]? =some (v.val ρ):=by rw [Fv,h2];rfl
 rw [afi,Array.getElem?_append_left (by simpa using (aeV.1 h3).1)];simp [h3]
theorem OB{ρ:Env}{a:Act}{w:World}{fr:List (Nat×SV)}{nt:NT}(ha:HA fr nt ρ a){o:Oper}{f:Nat}{az:List SV}(h:yH (look fr) o=some (f,az))
  {fd:Func} (hf:P.funcs[f]? =some fd) (hn:(fd.name== "runtime.NumGoroutine")=false) {c:Code} (hb:fd.body=some c):
  (execOp a.eval o).run P w= .ok (.enter f (SV.vals ρ az).toArray) w∧∀c,o.op≠ .defer c:=by
 unfold yH at h;split at h
 ·rename_i fop args argTypes hop;split at h
  ·rename_i f' caps X6 h1 h2;cases h;have e1:=eP ha.eval h1;have e2:=jW ha.eval _ _ h2;have e3:Array.map a.eval args=(SV.vals ρ X6).toArray:=Array.ext' (by rw [Array.toList_map,e2]);refine⟨?_,fun c hc=>by rw [hop]at hc;cases hc⟩;simp only [execOp,hop,resolve,e1,SV.val,Deferred.ofValue,afa,afs,ae3,invoke,callFunc,e3];have Mu: ¬fd.name= "runtime.NumGoroutine" :=by simpa using hn
   simp [hf,Mu,hb,vJ]
  ·cases h
 ·cases h
theorem Ru{ρ:Env}{a:Act}{w:World}{fr:List (Nat×SV)}{nt:NT}(ha:HA fr nt ρ a){o:Oper}{f:Nat}{az:List SV}(h:yH (look fr) o=some (f,az)):
  (execOp a.eval o).run P w=(callFunc f (SV.vals ρ az).toArray).run P w∧∀c,o.op≠ .defer c:=by
 unfold yH at h;split at h
 ·rename_i fop args argTypes hop;split at h
  ·rename_i f' caps X6 h1 h2;cases h;have e1:=eP ha.eval h1;have e2:=jW ha.eval _ _ h2;have e3:Array.map a.eval args=(SV.vals ρ X6).toArray:=Array.ext' (by rw [Array.toList_map,e2]);refine⟨?_,fun c hc=>by rw [hop]at hc;cases hc⟩;simp only [execOp,hop,resolve,e1,SV.val,Deferred.ofValue,afa,afs,ae3,invoke,e3,vJ];simp
  ·cases h
 ·cases h
theorem I8{ro:Option Nat}{n:Nat}{f:FuncId}{args:Array Value}{w:World}{R:Ending→World→Prop}(h:Calls P f args w R):CallsIn (FW ro) n P f args w R:=by
 have:CallsIn Fence.wide n P f args w R:=callsIn_wide.2 h;exact this
theorem OC{ro:Option Nat}{n:Nat}{f:FuncId}{args:Array Value}{w:World}{R:Ending→World→Prop}(h:CallsIn (FW none) n P f args w R):CallsIn (FW ro) n P f args w R:=h
theorem yT{fn:Func}{tmps:Array Value}{R:Ending→World→Prop}{u:FrameMode}(hu:u≠ .run){r:List Deferred}{i:Nat}: ∀{l:List Nat} {hs:List HP} {w:World},hs[i]? =some (kj l)→bK (hs++Fs) w→
  (∀w',bK (hs.set i HP.emp++Fs) w'→fV w w'→LeavesInM (FW none) 0 P fn tmps R r u w')→LeavesInM (FW none) 0 P fn tmps R (l.map (fun b=>{target:= .collected b,args:= #[]})++r) u w
 | [],hs,w,hi,ho,hk=>by
  obtain⟨S,hS⟩:=ho;refine hk w ?_ (fV.refl w);have dC:=hS.at_ i _ (by rw [ae1 (aeV.1 hi).1];exact hi);exact bK.step hS i _ _ hi rfl (fun _=>False) (Nat.le_refl _) (fun _ _ _=>rfl) (fun k hk=>hk) (fun k hk=>hk.elim)
 | b::l,hs,w,hi,ho,hk=>by
  obtain⟨S,hS⟩:=ho;have bU:=(aeV.1 hi).1;have dC:=hS.at_ i _ (by rw [ae1 bU];exact hi);obtain⟨⟨p1,p2,p3⟩,p4⟩:=dC;have kp:w.heap[b]? =some (.deferred (some [])):=p3 b aeZ;have hbn:=(List.nodup_cons.1 p2);refine⟨hu,.inl ⟨b,w.putObj b (.deferred none),rfl,run_takeDeferred kp,?_⟩⟩;have cM:bK (hs.set i (kj l)++Fs) (w.putObj b (.deferred none)):=by
   refine bK.step hS i _ _ hi rfl (fun k=>k∈l) (by simp [World.putObj]) (fun k hk hn=>?_) ⟨fun k=>Iff.rfl,hbn.2,fun k hk=>?_⟩ (fun k hk=> .inl ((p1 k).2 (ae4 _ hk)))
   ·exact World.putObj_heap_other (fun e=>hn ((p1 k).2 (by rw [e];exact aeZ)))
   ·rw [World.putObj_heap_other (fun e=>hbn.1 (by rw [←e];exact hk))];exact p3 k (ae4 _ hk)
  refine yT hu (l:=l) (hs:=hs.set i (kj l)) (by rw [List.getElem?_set_self bU]) cM fun w' H4 q9=>?_
  rw [List.set_set]at H4;exact hk w' H4 ((show fV w (w.putObj b (.deferred none))from⟨rfl,rfl,rfl,by simp⟩).trans q9)
theorem pU{fn:Func}{tmps:Array Value}{R:Ending→World→Prop}{u:FrameMode}(hu:u≠ .run){ρ:Env}: ∀{ds:List MK} {hp kT:List Ck} {w:World},leave hp ds=some kT→bK (hp.map (Ck.den ρ)++Fs) w→
  (∀w',bK (kT.map (Ck.den ρ)++Fs) w'→fV w w'→LeavesInM (FW none) 0 P fn tmps R [] u w')→LeavesInM (FW none) 0 P fn tmps R (marks ρ ds) u w
 | [],hp,kT,w,h,ho,hk=>by
  simp only [leave,aeX]at h;subst h;exact hk w ho (fV.refl w)
 | .many d::ds,hp,kT,w,h,ho,hk=>by
  unfold leave at h;split at h
  ·rename_i i hi;rw [List.findIdx?_eq_some_iff_getElem]at hi;obtain⟨bU,hd,_⟩:=hi;have DW:hp[i]? =some (.qy d):=by
    cases hc:hp[i]with
    | qy b=>
     rw [hc]at hd;simp only [Ck.uv,beq_iff_eq]at hd;subst hd;rw [afA bU,hc]
    | _=>rw [hc]at hd;simp [Ck.uv]at hd
   have J4:(hp.map (Ck.den ρ))[i]? =some (kj (o5 (ρ.bv.getD d 0))):=by rw [List.getElem?_map,DW];rfl
   rw [show marks ρ (.many d::ds)=(o5 (ρ.bv.getD d 0)).map (fun b=>{target:= .collected b,args:= #[]})++marks ρ ds by simp only [marks,List.flatMap_cons,MK.blocks,List.map_append]];refine yT hu J4 ho fun w' H4 q9=>?_
   have XK:bK ((hp.set i .emp).map (Ck.den ρ)++Fs) w':=by rw [List.map_set];exact H4
   exact pU hu h XK fun w2 h2 aai=>hk w2 h2 (q9.trans aai)
  ·cases h
 | .one d::ds,hp,kT,w,h,ho,hk=>by
  unfold leave at h;split at h
  ·rename_i i hi;rw [List.findIdx?_eq_some_iff_getElem]at hi;obtain⟨bU,hd,_⟩:=hi;have DW:hp[i]? =some (.J1 d):=by
    cases hc:hp[i]with
    | J1 b=>
     rw [hc]at hd;simp only [Ck.AW,beq_iff_eq]at hd;subst hd;rw [afA bU,hc]
    | _=>rw [hc]at hd;simp [Ck.AW]at hd
   obtain⟨S,hS⟩:=ho;have J4:(hp.map (Ck.den ρ))[i]? =some (xe (ρ.bv.getD d 0)):=by rw [List.getElem?_map,DW];rfl
   have dC:=hS.at_ i _ (by rw [ae1 (by simpa using bU)];exact J4);have kp:w.heap[ρ.bv.getD d 0]? =some (.deferred (some [])):=dC.1.2;have tB:ρ.bv.getD d 0<w.heap.size:=(ae5.1 kp).1;refine⟨hu,.inl ⟨ρ.bv.getD d 0,w.putObj (ρ.bv.getD d 0) (.deferred none),rfl,run_takeDeferred kp,?_⟩⟩;have cM:bK ((hp.set i .emp).map (Ck.den ρ)++Fs) (w.putObj (ρ.bv.getD d 0) (.deferred none)):=by
    rw [List.map_set];refine bK.step hS i _ _ J4 rfl (fun _=>False) (by simp [World.putObj]) (fun k hk hn=>?_) (fun k hk=>hk) (fun k hk=>hk.elim);exact World.putObj_heap_other (fun e=>hn ((dC.1.1 k).2 e))
   refine pU hu h cM fun w' H4 q9=>hk w' H4 ((show fV w (w.putObj (ρ.bv.getD d 0) (.deferred none))from⟨rfl,rfl,rfl,by simp⟩).trans q9)
  ·cases h
theorem yU{c:cP}: ∀{ds:List MK} {hp kT:List Ck},leave hp ds=some kT→hp.all (Ck.sc c)=true→kT.all (Ck.sc c)=true
 | [],hp,kT,h,hs=>by simp only [leave,aeX]at h;subst h;exact hs
 | .many d::ds,hp,kT,h,hs=>by
  unfold leave at h;split at h
  ·refine yU h (aeT.2 fun x hx=>?_);rcases afv hx with hx | rfl
   ·exact aeT.1 hs x hx
   ·rfl
  ·cases h
 | .one d::ds,hp,kT,h,hs=>by
  unfold leave at h;split at h
  ·refine yU h (aeT.2 fun x hx=>?_);rcases afv hx with hx | rfl
   ·exact aeT.1 hs x hx
   ·rfl
  ·cases h
theorem mD{fd:Func}{R:Ending→World→Prop}{st c_:St}{ρ:Env}{a:Act}{w:World}(h:lW st=some c_)(hw:HW Fs w0 st ρ w)(ha:HA st.fr st.nt ρ a)
  (hk: ∀w',HW Fs w0 c_ ρ w'→∃v,(results fd a.tmps).run P w'= .ok v w'∧R (.returned v) w'):LeavesInM (FW none) 0 P fd a.tmps R a.defers .returning w:=by
 unfold lW at h;rw [aeY]at h;obtain⟨kT,hl,rfl⟩:=h;rw [ha.defers];refine pU (by simp) hl hw.own fun w' ho q9=>?_
 obtain⟨v,h1,h2⟩:=hk w' ⟨hw.lens,hw.kd,yU hl hw.fm,hw.mL,hw.kn,ho,hw.same.trans q9,hw.kS⟩;exact⟨v,h1,h2⟩
theorem Fw(hT:bG P C.T=true){n:Nat}(vd:pC P C ar Fs w0 n){c:Code}{fd:Func}{f:Nat}(hf:P.funcs[f]? =some fd)(hb:fd.body=some c){k:List KI}{st:St}{ρ:Env}{L:Nat→LC}{w:World}{az:List SV}{fn:Nat}{nt:NT}{fr:List (Nat×SV)}{d:Option Nat}
  (hv:VC P ar (run C n (.code c:: .call fn nt fr d fd::k) (fB st f ⟨fd.ntmps,[]⟩ (ep 0 az))) ρ L) (iJ:SV.oK st.bd az=true) (hw:HW Fs w0 st ρ w) (hrf: ∀l r fn nt fr ps x y fd,KI.rf l r fn nt fr ps x y fd∈k→∃ve c0,fJ ve c0∧Env.Le ve ρ∧kH c0 fr=true∧r<c0.r∧(ve.lr.getD r gW).params=ps∧(ve.lr.getD r gW).assign=x∧(ve.lr.getD r gW).body=y∧HA fr ⟨nt.n,[]⟩ ve {tmps:=(ve.lr.getD r gW).tmps,defers:=[]}) {R:Ending→World→Prop}
  (hR: ∀v w' m c_ bI L',m<n→Env.Le ρ bI→(∀j,j<nl k→L' j=L j)→HW Fs w0 c_ bI w'→v.sc c_.bd=true→pB (fB c_ fn nt fr) d=true→
   VC P ar (run C m k ((fB c_ fn nt fr).put d v)) bI L'→R (.returned (v.val bI)) w'):
  CallsIn (FW none) 0 P f (SV.vals ρ az).toArray w R:=by
 refine callsIn_of_wp_marks hf hb trivial ?_ rfl;have VU:HW Fs w0 (fB st f ⟨fd.ntmps,[]⟩ (ep 0 az)) ρ w:=⟨hw.lens,wE az 0 iJ,hw.fm,hw.mL,hw.kn,hw.own,hw.same,rfl⟩;refine wpIn_mono (vd none c _ _ ρ L _ w hv VU (xY az fd.ntmps) ⟨fun l r fn nt fr ps x y fd hm=>hrf l r fn nt fr ps x y fd (by simpa using hm),rfl⟩) ?_;have key: ∀a' w',At P C ar Fs w0 n (.call fn nt fr d fd::k) ρ L a' w'→LeavesInM (FW none) 0 P fd a'.tmps R a'.defers .returning w':=by
  intro a' w' ⟨m,hm,c_,bI,L',h1,h2,h3,h4,h5⟩;cases m with
  | zero=>exact h5.elim
  | succ m=>
   simp only [run]at h5;split at h5
   case h_2=>exact h5.elim
   rename_i D5 H9;have MG:D5.fr=c_.fr∧D5.nt=c_.nt∧D5.bd=c_.bd:=by
    unfold lW at H9;rw [aeY]at H9;obtain⟨kT,_,rfl⟩:=H9;exact⟨rfl,rfl,rfl⟩
   split at h5
   ·rename_i v hv;split at h5
    ·rename_i hc;simp only [ai]at hc;refine mD H9 h3 h4 fun w2 D7=>?_
     refine⟨_,n_ hT D7 (nt:=c_.nt) (by rw [MG.1];exact h4) hv,hR v w2 m D5 bI L' (by omega) h1 h2 D7 hc.2 hc.1 h5⟩
    ·exact h5.elim
   ·exact h5.elim
 intro e a' w' hq;obtain⟨k',hk,dC⟩:=hq;cases e with
 | normal=>cases hk;exact key a' w' dC
 | ret=>cases hk;exact key a' w' dC
 | exit id=>cases hk
 | goto l=>cases hk
 | panic l=>cases hk
 | outgrown=>cases hk
theorem sO{st:St}{d:Option Nat}(h:pB st d=true): ∀x,d=some x→x<st.nt.n:=by
 intro x hx;subst hx;simpa [pB,afb] using h
theorem rP{hp:List Ck}{l i r:Nat}{s:RS}{j:Jump}(h:recAt hp l=some (i,r,s,j)):hp[i]? =some (.kr l r s j):=by
 unfold recAt at h;split at h
 ·rename_i q hq;split at h
  ·rename_i l' r' s' j' hg;cases h;rw [List.findIdx?_eq_some_iff_getElem]at hq;obtain⟨bU,hd,_⟩:=hq;rw [afA bU,aeX]at hg;rw [hg]at hd;simp only [Ck.isRec,beq_iff_eq]at hd;subst hd;rw [afA bU,hg]
  ·cases h
 ·cases h
theorem tj{l:Nat}: ∀{k:List KI} {r fn:Nat} {nt:NT} {fr:List (Nat×SV)} {ps:Array Tmp} {x y:Code},qo l k=some (r,fn,nt,fr,ps,x,y)→∃fd,KI.rf l r fn nt fr ps x y fd∈k
 | [],_,_,_,_,_,_,_,h=>by cases h
 | i::k,r,fn,nt,fr,ps,x,y,h=>by
  have go:qo l k=some (r,fn,nt,fr,ps,x,y)→∃fd,KI.rf l r fn nt fr ps x y fd∈i::k:=fun h'=>by
   obtain⟨fd,hm⟩:=tj h';exact⟨fd,ae4 _ hm⟩
  cases i with
  | rf l' r' fn' wN FI XN x' y' VY=>
   unfold qo at h;split at h
   ·rename_i hl;rw [beq_iff_eq]at hl;cases h;subst hl;exact⟨VY,aeZ⟩
   ·exact go h
  | _=>exact go h
theorem kU{st:St}{ρ:Env}{w:World}(hw:HW Fs w0 st ρ w){l i r:Nat}{s:RS}{j:Jump}(h:recAt st.hp l=some (i,r,s,j)):
  w.heap[ρ.bv.getD l 0]? =some (.loop {ρ.lr.getD r gW with state:=s.st,pending:=j.code}):=by
 obtain⟨S,hS⟩:=hw.own;have hi:=rP h;have bU:=(aeV.1 hi).1;exact(hS.at_ i ((Ck.kr l r s j).den ρ) (by rw [ae1 (by simpa using bU),List.getElem?_map,hi];rfl)).1.2
theorem BD{st:St}{ρ:Env}{w:World}(hw:HW Fs w0 st ρ w){l i r:Nat}{s:RS}{j:Jump}(h:recAt st.hp l=some (i,r,s,j))(s':RS)(j':Jump):
  HW Fs w0 {st with hp:=st.hp.set i (.kr l r s' j')} ρ (w.putObj (ρ.bv.getD l 0) (.loop {ρ.lr.getD r gW with state:=s'.st,pending:=j'.code})):=by
 have hi:=rP h;have hb:=kU hw h;have tB:ρ.bv.getD l 0<w.heap.size:=(ae5.1 hb).1;have bU:=(aeV.1 hi).1;obtain⟨S,hS⟩:=hw.own;have J4:(st.hp.map (Ck.den ρ))[i]? =some ((Ck.kr l r s j).den ρ):=by rw [List.getElem?_map,hi];rfl
 have dC:=hS.at_ i _ (by rw [ae1 (by simpa using bU)];exact J4);have iJ:=aeT.1 hw.fm _ (afr hi);refine⟨hw.lens,hw.kd,aeT.2 fun q hq=>?_,hw.mL,hw.kn,?_,hw.same.trans ⟨rfl,rfl,rfl,by simp⟩,hw.kS⟩
 ·rcases afv hq with hq | rfl
  ·exact aeT.1 hw.fm q hq
  ·exact iJ
 ·show bK ((st.hp.set i (.kr l r s' j')).map (Ck.den ρ)++Fs) _;rw [List.map_set];refine bK.step hS i _ _ J4 rfl (S i) (by simp) (fun k hk hn=>World.putObj_heap_other (fun e=>hn ((dC.1.1 k).2 e))) ⟨dC.1.1,?_⟩ (fun k hk=> .inl hk);exact World.putObj_heap_same tB
theorem tq{ρ:Env}: ∀{l:List (Nat×SV)} {st kN:St} {a:Act} {w:World},kx st l=some kN→HW Fs w0 st ρ w→HA st.fr st.nt ρ a→
  HW Fs w0 kN ρ w∧HA kN.fr kN.nt ρ (l.foldl (fun a x=>a.put (some x.1) (x.2.val ρ)) a)∧kN.bd=st.bd∧kN.hp=st.hp
 | [],st,kN,a,w,h,hw,ha=>by
  simp only [kx,aeX]at h;subst h;exact⟨hw,ha,rfl,rfl⟩
 | (d,v)::r,st,kN,a,w,h,hw,ha=>by
  unfold kx at h;split at h
  ·rename_i hc;rw [ai]at hc;have ub:=ha.put (d:=some d) (v:=v) (u:=v.val ρ) (sO hc.1) rfl st rfl;have e:=dR st (some d) v;obtain⟨h1,h2,h3,h4⟩:=tq h (hw.put hc.2) (by rw [e.2.2.2.1];exact ub);exact⟨h1,h2,h3.trans e.2.1,h4.trans e.1⟩
  ·cases h
theorem KV{ρ:Env}{a:Act}{w:World}{fr:List (Nat×SV)}{nt:NT}(ha:HA fr nt ρ a){o:Oper}{l:Nat}{az:List SV}(h:Oh (look fr) o=some (l,az)){r:Loop}(hb:w.heap[ρ.bv.getD l 0]? =some (.loop r))
  (hs:az.length=r.params.size):
  (execOp a.eval o).run P w= .ok (.round (ρ.bv.getD l 0) r.fn ((r.params.zip (SV.vals ρ az).toArray).foldl (fun tmps (t,a)=>tmps.setIfInBounds t a) r.tmps) r.assign r.body) w∧∀c,o.op≠ .defer c:=by
 unfold Oh at h;split at h
 ·rename_i fop args argTypes hop;split at h
  ·rename_i l' X6 h1 h2;cases h;have e1:=eP ha.eval h1;have e2:=jW ha.eval _ _ h2;have e3:Array.map a.eval args=(SV.vals ρ az).toArray:=Array.ext' (by rw [Array.toList_map,e2]);refine⟨?_,fun c hc=>by rw [hop]at hc;cases hc⟩;have hlen: ∀l:List SV,(SV.vals ρ l).length=l.length:=by
    intro l;induction l with
    | nil=>rfl
    | cons x r ih=>simp [SV.vals,ih]
   have hy:=run_yield (P:=P) (args:=(SV.vals ρ az).toArray) hb (by simp [hlen,hs]);simp only [execOp,hop,resolve,e1,SV.val,Deferred.ofValue,afa,afs,ae3,invoke,e3,Array.empty_append];exact hy
  ·cases h
 ·cases h
theorem Hm{ρ:Env}(ps:Array Tmp)(az:List SV)(t:Array Value):
  (ps.toList.zip az).foldl (fun a x=>a.put (some x.1) (x.2.val ρ)) ({tmps:=t,defers:=[]}:Act)=
   {tmps:=(ps.zip (SV.vals ρ az).toArray).foldl (fun tmps (t,a)=>tmps.setIfInBounds t a) t,defers:=[]}:=by
 rw [←Array.foldl_toList,Array.toList_zip];generalize ps.toList=l
 induction l generalizing az t with
 | nil=>rfl
 | cons d l ih=>
  cases az with
  | nil=>rfl
  | cons v az=>
   simp only [List.zip_cons_cons,List.foldl_cons,SV.vals];exact ih az _
theorem Ec(hT:bG P C.T=true)(Az:aX P C.FT)(Ea:fZ P C){n:Nat}(vd: ∀m,m<n→pC P C ar Fs w0 m)(Lh: ∀m,m<n→rD P C ar Fs w0 m):rD P C ar Fs w0 n:=by
 intro ro all r k st ρ L a w hv hw ha fK;cases n with
 | zero=>exact hv.elim
 | succ n=>
  have hn:n<n+1:=Nat.lt_succ_self n;have up: ∀{e:Exit} {a:Act} {w:World} {bI:Env} {L':Nat→LC},Env.Le ρ bI→(∀j,j<nl k→L' j=L j)→QK P C ar Fs w0 n k bI L' e a w→QK P C ar Fs w0 (n+1) k ρ L e a w:=fun h1 h2 hq=>hq.mono (afE n) h1 h2
  cases r with
  | nil=>
   simp only [run]at hv;exact QK.here hn rfl hv hw ha
  | cons o r=>
   simp only [run]at hv;split at hv
   case isFalse=>exact hv.elim
   rename_i vV;have hd:=sO vV;have hd0:=hd;have next: ∀{m:Nat} (c_:St) (v:SV) (u:Value) (bI:Env) (L':Nat→LC) (w':World),m≤n→Env.Le ρ bI→(∀j,j<nl k→L' j=L j)→c_.fr=st.fr→c_.nt=st.nt→HW Fs w0 c_ bI w'→v.sc c_.bd=true→u=v.val bI→
     VC P ar (run C m (.ops all r::k) (c_.put o.dst v)) bI L'→wpListIn (FW ro) 0 P all (QK P C ar Fs w0 (n+1) k ρ L) r (a.put o.dst u) w':=by
    intro m c_ v u bI L' w' hm h1 h2 RN FD h3 h4 h5 h6;have eD:=Env.Le.agree hw.lens h1;have ub:=(ha.more hw.kd hw.kS eD).put (d:=o.dst) (v:=v) (u:=u) hd h5 c_ RN;have:=Lh m (by omega) ro all r k _ bI L' (a.put o.dst u) w' h6 (h3.put h4) (by rw [(dR c_ o.dst v).2.2.2.1,FD];exact ub) (fK.le h1);exact fh (fun e a w hq=>hq.mono (by omega) h1 h2) this
   have yV: ∀{m:Nat} (v:SV) (u:Value),m≤n→v.sc st.bd=true→u=v.val ρ→VC P ar (run C m (.ops all r::k) (st.put o.dst v)) ρ L→wpListIn (FW ro) 0 P all (QK P C ar Fs w0 (n+1) k ρ L) r (a.put o.dst u) w:=
    fun v u hm h1 h2 h3=>next st v u ρ L w hm (Env.Le.refl _) (fun _ _=>rfl) rfl rfl hw h1 h2 h3
   unfold wpListIn;split at hv
   ·exact hv.elim
   ·
    rename_i hg;have lz:=jK ha hw.kn hg;simp only [mC,BE.den]at lz;rw [if_neg (by rw [lz];simp)];exact⟨fun _ _=>trivial,yV .undef undef (Nat.le_refl _) rfl rfl hv⟩
   ·
    rename_i c dH hg;have lz:=jK ha hw.kn hg;simp only [mC]at lz;split at hv
    case isFalse=>exact hv.elim
    rename_i mj;have fork:VC P ar (.fork c (run C n (.ops all ({o with guard:=none}::r)::k) (st.Hb c)) (run C n (.ops all r::k) ((st.qA c).put o.dst .undef))) ρ L→
      (if Region.wanted o (yielded all a.tmps)=true then o.wpIn (FW ro) 0 P a w (wpListIn (FW ro) 0 P all (QK P C ar Fs w0 (n+1) k ρ L) r) (QK P C ar Fs w0 (n+1) k ρ L)
       else(∀f,o.about P w a.eval=some f→(FW ro).fn f)∧wpListIn (FW ro) 0 P all (QK P C ar Fs w0 (n+1) k ρ L) r (a.put o.dst undef) w):=by
     intro hf;simp only [VC,aR]at hf;rw [lz];cases hd:c.den ρ with
     | true=>
      rw [if_pos rfl];have wC:HW Fs w0 (st.Hb c) ρ w:=by
       have:=hw.know ((BE.cc ρ c).1 hd) mj;refine⟨this.lens,aeT.2 fun x hx=>?_,this.fm,this.mL,this.kn,this.own,this.same,this.kS⟩;obtain⟨y,hy,rfl⟩:=List.mem_map.1 hx;exact SV.Uz (aeT.1 hw.kd y hy)
      have h1:=Lh n hn ro all ({o with guard:=none}::r) k (st.Hb c) ρ L a w (hf.1 ((BE.cc ρ c).1 hd)) wC (HA.Hb ha hd) fK;unfold wpListIn at h1;rw [if_pos (by simp [Region.wanted])]at h1;exact zL (Oper.xS (fun a w h=>fh (fun e a w hq=>up (Env.Le.refl _) (fun _ _=>rfl) hq) h) (fun e a w hq=>up (Env.Le.refl _) (fun _ _=>rfl) hq) h1)
     | false=>
      rw [if_neg (by simp)];have D7:HW Fs w0 (st.qA c) ρ w:=by
       have:=hw.know (b:=iZ c) (by rw [←BE.cc,df,hd];rfl) (CG mj);refine⟨this.lens,aeT.2 fun x hx=>?_,this.fm,this.mL,this.kn,this.own,this.same,this.kS⟩;obtain⟨y,hy,rfl⟩:=List.mem_map.1 hx;exact SV.Rs (aeT.1 hw.kd y hy)
      have UX:=(HA.qA ha hd).put (d:=o.dst) (v:= .undef) (u:=undef) hd0 rfl (st.qA c) rfl;have:=Lh n hn ro all r k _ ρ L (a.put o.dst undef) w (hf.2 fun h=>by rw [←BE.cc,hd]at h;cases h) (D7.put rfl) (by rw [(dR (st.qA c) o.dst .undef).2.2.2.1];exact UX) fK;exact⟨fun _ _=>trivial,fh (fun e a w hq=>hq.mono (by omega) (Env.Le.refl _) fun _ _=>rfl) this⟩
    split at hv
    ·rename_i res D4;obtain⟨D2,J5⟩:=kI D4;split at hv
     ·rename_i Qe;obtain⟨bY,hv⟩:=gQ hw.kn hv;simp only [mC]at bY;rw [lz];have iJ:=J5;simp only [hZ.sc,ai,Qe,zq.grow]at iJ;cases hd:c.den ρ with
      | true=>
       rw [if_pos rfl];obtain⟨S,hS⟩:=hw.own;have hD:=pA (P:=P) hT (Env.ok ρ) (ha.uc hw.kn (g:=some c) hd) D2 (xX S hS _) (bY hd) hw.lens.b;unfold Did at hD;rw [Qe]at hD;refine lV (ud D2) (.inl hD) ?_;refine yV (.opt c res.val) _ (Nat.le_refl _) ?_ ?_ hv
       ·simp only [SV.sc,ai];exact⟨mj,iJ.1.1⟩
       ·simp only [SV.val,hd,if_true]
      | false=>
       rw [if_neg (by simp)];refine⟨fun _ _=>trivial,yV (.opt c res.val) undef (Nat.le_refl _) ?_ ?_ hv⟩
       ·simp only [SV.sc,ai];exact⟨mj,iJ.1.1⟩
       ·simp [SV.val,hd]
     ·exact fork hv
    ·exact fork hv
   ·
    rename_i hg;have lz:=jK ha hw.kn hg;simp only [mC]at lz;rw [if_pos lz];split at hv
    ·rename_i res D4;obtain⟨D2,J5⟩:=kI D4;obtain⟨bY,hv⟩:=gQ hw.kn hv;have bY:=bY rfl;obtain⟨S,hS⟩:=hw.own;have hD:=pA (P:=P) hT (Env.ok ρ) (ha.uc hw.kn (g:=none) rfl) D2 (xX S hS _) bY hw.lens.b;have qw:VC P ar (Xf res.hO (run C n (.ops all r::k) (({c7 st res.hO with known:=more res.vcs st.known}:St).put o.dst res.val))) ρ L:=by
      cases he:res.hO<;>rw [he]at hv<;>exact hv
     obtain⟨u,w',bI,iS,hle,VU,hu,aaj,FB⟩:=Ov hw hS hD J5 bY qw;refine lV (ud D2) iS ?_;obtain⟨e1,e2,e3,e4,e5⟩:=zJ st res.hO;exact next {c7 st res.hO with known:=more res.vcs st.known} res.val u bI L w' (Nat.le_refl _) hle (fun _ _=>rfl) e1 e2 VU (by rw [show({c7 st res.hO with known:=more res.vcs st.known}:St).bd=(c7 st res.hO).bd from rfl,e5];exact aaj) hu FB
    ·split at hv
     ·rename_i f az pD;split at hv
      ·exact hv.elim
      ·rename_i fd xZ;have Gj:=List.mem_of_find?_eq_some xZ;have JK:=List.find?_some xZ;simp only [beq_iff_eq]at JK;obtain⟨hf,D9⟩:=Az _ Gj;simp only at hf D9;rw [JK]at hf;split at hv
       ·split at hv
        case h_2=>exact hv.elim
        rename_i ca Yk;split at hv
        case isFalse=>exact hv.elim
        rename_i iJ;simp only [ai,decide_eq_true_eq]at iJ;obtain⟨⟨⟨j_,vW⟩,jL⟩,zC⟩:=iJ;have bU: ∀i∈ca.use az st.hp,i<st.hp.length:=fun i hi=>by simpa [afb] using aeT.1 jL i hi
        simp only [VC]at hv;obtain⟨post,yW,OD⟩:=hv;have cM:=bK.sJ (acc:=[]) (use:=ca.use az st.hp) (by simpa using hw.own) zC (by simpa using bU);have Hl:((ca.use az st.hp).map fun i=>st.hp.getD i .emp).map (Ck.den ρ)=(ca.use az st.hp).map (fun i=>(st.hp.map (Ck.den ρ)).getD i HP.emp):=by
         rw [List.map_map];refine List.map_congr_left fun i hi=>?_
         have:=bU i hi;simp [this]
        rw [List.nil_append,←Hl]at cM;obtain⟨v,hs,w',hR,hp,yS,nj⟩:=yW w _ cM;obtain⟨iS,gn⟩:=Ru (P:=P) (w:=w) ha pD;have hx:=OD v hs hp;rw [jA]at hx;obtain⟨e2,tP,rfl,rfl,FB⟩:=hx;have hle:=Env.fX ρ e2;have eD:=Env.Le.agree hw.lens hle;refine lV gn (.inl (iS.trans hR)) ?_;refine next {st with hp:=fw st.hp (ca.use az st.hp) (ca.new st.bd ((ca.use az st.hp).map fun i=>st.hp.getD i .emp)),bd:=st.bd.add ca.inc} (qm ca az st.hp st.bd) _ (ρ.ext e2) L w' (Nat.le_refl _) hle (fun _ _=>rfl) rfl rfl ?_ j_ rfl FB;refine⟨hw.lens.ext tP,cF (cP.jC _ _) hw.kd,?_,eT (cP.jC _ _) hw.mL,fun b hb=>?_,?_,hw.same.trans nj,c6 (cP.jC _ _) hw.kS⟩
        ·exact kV _ _ rfl _ _ _ (ik (cP.jC _ _) hw.fm) vW
        ·exact(BE.gf eD (aeT.1 hw.mL b hb)).1 (hw.kn b hb)
        ·have h1:=bK.kx (use:=ca.use az st.hp) yS (fun i hi=>by rw [kG];simpa using bU i hi) fun _ _=> .inr trivial
         rw [←iL _ _ _ zC,jz eD hw.fm]at h1;simp only [fw];rw [kR];exact h1
       ·rename_i c hb;obtain⟨iS,gn⟩:=OB (P:=P) (w:=w) ha pD hf D9 hb;refine⟨fun _ _=>trivial,?_⟩;rw [Oper.semAt_eq _ _ _ gn,iS,Oper.uponIn_enter];refine⟨fun h=>(by cases h),?_⟩;split at hv
        ·rename_i r0 aak;split at hv
         case isFalse=>exact hv.elim
         rename_i iJ;simp only [ai,decide_eq_true_eq]at iJ;obtain⟨⟨⟨j_,vW⟩,jL⟩,zC⟩:=iJ;obtain⟨bY,hv⟩:=gQ hw.kn hv;have bU: ∀i∈r0.use,i<st.hp.length:=fun i hi=>by simpa [afb] using aeT.1 jL i hi
         have yW:=Ea f az st.hp r0 ρ aak (bY rfl);have cM:=bK.sJ (acc:=[]) (use:=r0.use) (by simpa using hw.own) zC (by simpa using bU);have Hl:(r0.use.map fun i=>st.hp.getD i .emp).map (Ck.den ρ)=r0.use.map (fun i=>(st.hp.map (Ck.den ρ)).getD i HP.emp):=by
          rw [List.map_map];refine List.map_congr_left fun i hi=>?_
          have:=bU i hi;simp [this]
         rw [List.nil_append,←Hl]at cM;refine I8 ?_;have hc:=yW w _ cM;intro cs;obtain⟨e,w',FI,hR,OE,X5,Hn⟩:=hc cs;refine⟨e,w',FI,?_,OE,X5,Hn⟩;obtain⟨x,hs,rfl,⟨hx,rfl⟩,yS,nj⟩:=hR;subst hx;refine next {st with hp:=fw st.hp r0.use r0.new} r0.val _ ρ L w' (Nat.le_refl _) (Env.Le.refl _) (fun _ _=>rfl) rfl rfl ⟨hw.lens,hw.kd,?_,hw.mL,hw.kn,?_,hw.same.trans nj,hw.kS⟩ j_ rfl hv
         ·exact kV _ _ rfl _ _ _ hw.fm vW
         ·have h1:=bK.kx (use:=r0.use) yS (fun i hi=>by rw [kG];simpa using bU i hi) fun _ _=> .inr trivial
          rw [←iL _ _ _ zC]at h1;simp only [fw];rw [kR];exact h1
        split at hv
        ·rename_i ca Yk;split at hv
         case isFalse=>exact hv.elim
         rename_i iJ;simp only [ai,decide_eq_true_eq]at iJ;obtain⟨⟨⟨j_,vW⟩,jL⟩,zC⟩:=iJ;have bU: ∀i∈ca.use az st.hp,i<st.hp.length:=fun i hi=>by simpa [afb] using aeT.1 jL i hi
         simp only [VC]at hv;obtain⟨post,yW,OD⟩:=hv;have cM:=bK.sJ (acc:=[]) (use:=ca.use az st.hp) (by simpa using hw.own) zC (by simpa using bU);have Hl:((ca.use az st.hp).map fun i=>st.hp.getD i .emp).map (Ck.den ρ)=(ca.use az st.hp).map (fun i=>(st.hp.map (Ck.den ρ)).getD i HP.emp):=by
          rw [List.map_map];refine List.map_congr_left fun i hi=>?_
          have:=bU i hi;simp [this]
         rw [List.nil_append,←Hl]at cM;refine I8 ?_;have hc:=yW w _ cM;intro cs;obtain⟨e,w',FI,hR,OE,X5,Hn⟩:=hc cs;refine⟨e,w',FI,?_,OE,X5,Hn⟩;obtain⟨v,hs,rfl,hp,yS,nj⟩:=hR;have hx:=OD v hs hp;rw [jA]at hx;obtain⟨e2,tP,rfl,rfl,FB⟩:=hx;have hle:=Env.fX ρ e2;have eD:=Env.Le.agree hw.lens hle;refine next {st with hp:=fw st.hp (ca.use az st.hp) (ca.new st.bd ((ca.use az st.hp).map fun i=>st.hp.getD i .emp)),bd:=st.bd.add ca.inc} (qm ca az st.hp st.bd) _ (ρ.ext e2) L w' (Nat.le_refl _) hle (fun _ _=>rfl) rfl rfl ?_ j_ rfl FB;refine⟨hw.lens.ext tP,cF (cP.jC _ _) hw.kd,?_,eT (cP.jC _ _) hw.mL,fun b hb=>?_,?_,hw.same.trans nj,c6 (cP.jC _ _) hw.kS⟩
         ·exact kV _ _ rfl _ _ _ (ik (cP.jC _ _) hw.fm) vW
         ·exact(BE.gf eD (aeT.1 hw.mL b hb)).1 (hw.kn b hb)
         ·have h1:=bK.kx (use:=ca.use az st.hp) yS (fun i hi=>by rw [kG];simpa using bU i hi) fun _ _=> .inr trivial
          rw [←iL _ _ _ zC,jz eD hw.fm]at h1;simp only [fw];rw [kR];exact h1
        ·split at hv
         case isFalse=>exact hv.elim
         rename_i iJ;refine OC (Fw hT (vd n hn) hf hb hv iJ hw (fun l r fn nt fr ps x y fd hm=>fK.rf l r fn nt fr ps x y fd (by simpa using hm)) ?_);intro v w' m c_ bI L' hm h1 h2 h3 h4 h5 h6;have dH:=fJ.le hw.lens h3.lens h1;have H6:HW Fs w0 (fB c_ st.fn st.nt st.fr) bI w':=⟨h3.lens,cF dH hw.kd,h3.fm,h3.mL,h3.kn,h3.own,h3.same,c6 dH hw.kS⟩;exact next (fB c_ st.fn st.nt st.fr) v _ bI L' w' (Nat.le_of_lt hm) h1 h2 rfl rfl H6 h4 rfl h6
     ·split at hv
      case h_2=>exact hv.elim
      rename_i l az UK;split at hv
      case h_2=>exact hv.elim
      rename_i rr fn nt fr ps x y i' r' s' j' xZ Gl;split at hv
      case isFalse=>exact hv.elim
      rename_i hc;rw [ai,decide_eq_true_eq,beq_iff_eq]at hc;obtain⟨rfl,hlen⟩:=hc;split at hv
      case h_2=>exact hv.elim
      rename_i kN pg;obtain⟨fd,Gj⟩:=tj xZ;obtain⟨ve,c0,k1,k2,k3,k4,k5,k6,k7,k8⟩:=fK.rf l rr fn nt fr ps x y fd Gj;have Xj:=Env.Le.agree k1 k2;have hlr:ve.lr.getD rr gW=ρ.lr.getD rr gW:=Xj.r _ k4;rw [hlr]at k5 k6 k7 k8;have kp:=kU hw Gl;obtain⟨iS,gn⟩:=KV (P:=P) ha UK kp (by rw [hlen,←k5]);refine⟨fun _ _=>trivial,?_⟩;rw [Oper.semAt_eq _ _ _ gn,iS,Oper.uponIn_round];refine⟨fun h=>(by cases h),?_⟩;refine roundIn_of_wpIn trivial ?_;simp only [k5,k6,k7];have wC:HW Fs w0 (fB st fn ⟨nt.n,[]⟩ fr) ρ w:=⟨hw.lens,cF (fJ.le k1 hw.lens k2) k3,hw.fm,hw.mL,hw.kn,hw.own,hw.same,rfl⟩;have Gm:HA fr ⟨nt.n,[]⟩ ρ {tmps:=(ρ.lr.getD rr gW).tmps,defers:=[]}:=k8.more k3 rfl Xj;obtain⟨D7,UX,abh,_⟩:=tq pg wC Gm;rw [Hm]at UX;have JZ:FW ro=FW ro:=rfl;have X7:l<st.bd.b:=by
       have:=aeT.1 hw.fm _ (afr (rP Gl));simp only [Ck.sc,ai,afb]at this;exact this.1
      have D_:BA ρ (.begin l:: .code y:: .round l st.fn st.nt st.fr o.dst:: .ops all r::k) (some (ρ.bv.getD l 0)):=
       ⟨fun l r fn nt fr ps x y fd hm=>fK.rf l r fn nt fr ps x y fd (by simpa using hm),⟨ρ,st.bd,hw.lens,Env.Le.refl _,X7,rfl⟩⟩
      refine wpIn_mono (vd n hn (some (ρ.bv.getD l 0)) x _ kN ρ L _ w hv D7 UX D_) ?_;intro e a1 w1 hq;obtain⟨k',mY,m,hm,D5,H8,L2,g1,g2,g3,g4,g5⟩:=hq;cases e with
      | normal=>
       cases mY;cases m with
       | zero=>exact g5.elim
       | succ m=>
        simp only [run]at g5;split at g5
        case h_2=>exact g5.elim
        rename_i i2 r2 j2 So;have Sp:=kU g3 So;have VW:H8.bv.getD l 0=ρ.bv.getD l 0:=((Env.Le.agree hw.lens g1).b l X7).symm;rw [VW]at Sp;refine⟨_,run_beginRound Sp rfl,?_⟩;have H6:=BD g3 So .busy j2;rw [VW]at H6;cases m with
        | zero=>exact g5.elim
        | succ m=>
        have Xk:BA H8 (.round l st.fn st.nt st.fr o.dst:: .ops all r::k) (some (ρ.bv.getD l 0)):=
         ⟨fun l r fn nt fr ps x y fd hm=>(fK.le g1).rf l r fn nt fr ps x y fd (by simpa using hm),⟨ρ,st.bd,hw.lens,g1,X7,rfl⟩⟩
        refine wpIn_mono (vd (m+1) (by omega) (some (ρ.bv.getD l 0)) y _ _ H8 L2 a1 _ g5 H6 g4 Xk) ?_;have fin: ∀(j:Jump) (a3:Act) (w3:World),At P C ar Fs w0 (m+1) (.lv l j st.fn st.nt st.fr o.dst:: .ops all r::k) H8 L2 a3 w3→
          ∃v w',(Instr.endRound (ρ.bv.getD l 0) j.code).run P w3= .ok v w'∧wpListIn (FW ro) 0 P all (QK P C ar Fs w0 (n+1) k ρ L) r (a.put o.dst v) w':=by
         intro j a3 w3 ⟨m3,XH,UY,Xl,L3,q1,q2,q3,q4,q5⟩;cases m3 with
         | zero=>exact q5.elim
         | succ m3=>
          simp only [run]at q5;split at q5
          case h_2=>exact q5.elim
          rename_i i3 r3 s3 j3 Sq;split at q5
          case isFalse=>exact q5.elim
          rename_i aeg;have KU:=g1.trans q1;have Sr:=kU q3 Sq;have Xm:Xl.bv.getD l 0=ρ.bv.getD l 0:=((Env.Le.agree hw.lens KU).b l X7).symm;rw [Xm]at Sr;refine⟨_,_,run_endRound j.code Sr,?_⟩;have MH:=BD q3 Sq (if j= .none then .ready else .done) j;rw [Xm]at MH;have dH:=fJ.le hw.lens q3.lens KU;have hw5:HW Fs w0 (fB {UY with hp:=UY.hp.set i3 (.kr l r3 (if j= .none then .ready else .done) j)} st.fn st.nt st.fr) Xl _:=⟨MH.lens,cF dH hw.kd,MH.fm,MH.mL,MH.kn,MH.own,MH.same,c6 dH hw.kS⟩;have:=next (fB {UY with hp:=UY.hp.set i3 (.kr l r3 (if j= .none then .ready else .done) j)} st.fn st.nt st.fr) (.bool (.lit (decide (j= .none)))) (.bool j.code.isNone) Xl L3 _ (by omega) KU
           (fun j hj=>(q2 j hj).trans (g2 j hj)) rfl rfl hw5 rfl (by cases j<;>rfl) q5
          cases j<;>exact this
        intro e3 a3 w3 hq3;obtain⟨k3',UZ,UB⟩:=hq3;cases e3 with
        | normal=>
         cases UZ;refine fin .none a3 w3 ?_;obtain⟨m3,XH,UY,Xl,L3,q1,q2,q3,q4,q5⟩:=UB;cases m3 with
         | zero=>exact q5.elim
         | succ m3=>exact⟨m3,by omega,UY,Xl,L3,q1,q2,q3,q4,q5⟩
        | ret=>cases UZ;exact fin .ret a3 w3 UB
        | exit id=>cases UZ;exact fin (.exit id) a3 w3 UB
        | goto l=>cases UZ
        | panic l=>cases UZ
        | outgrown=>cases UZ
      | exit id=>cases mY
      | ret=>cases mY
      | goto l=>cases mY
      | panic l=>cases mY
      | outgrown=>cases mY
end
end Go.RX
