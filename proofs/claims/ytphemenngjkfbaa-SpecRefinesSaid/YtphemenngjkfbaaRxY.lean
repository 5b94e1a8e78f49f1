/- Executor. -/
import Derived.Test.YtphemenngjkfbaaRxX
import Derived.RangeFuncNested
open Array renaming ext' → aha, getD_eq_getD_getElem? → agS, getElem?_eq_some_iff → agH
open Bool renaming and_eq_true → ai
open Go.Result renaming andThen_ok → agG
open Go.Sem renaming run_bind → agK, run_pure → ag0
open List renaming all_eq_true → agv, getElem?_append_left → agC, getElem?_eq_getElem → ag6, getElem?_eq_some_iff → agx, map_congr_left → ag4, mem_cons_of_mem → agF, mem_cons_self → agA, mem_map → ag9, mem_or_eq_of_mem_set → ag2
open Nat renaming blt_eq → agM
open Option renaming map_eq_some_iff → agz
open Option.some renaming injEq → agy
namespace Go.RX
def gN(P:Program)(C:Ctx):Prop:= ∀f az hp r (ρ:Env),Fi C f az hp=some r→(∀b∈r.vcs,b.prop ρ)→
 au P f (SV.bQ ρ az) ((r.use.map fun i=>hp.getD i .emp).map (Ck.den ρ)) fun x hs=>x=r.val.val ρ∧hs=r.new.map (Ck.den ρ)
theorem gN.none{P:Program}{C:Ctx}(h:C.pure=fun _=>Option.none):gN P C:=by
 intro f az hp r ρ hp;simp [Fi,h]at hp
def bf(P:Program)(FT:List (Nat×Func)):Prop:= ∀x∈FT,P.funcs[x.1]? =some x.2∧(x.2.name== "runtime.NumGoroutine")=false
section
variable {P:Program} {C:Ctx} {aq:Value→List HP→Prop} {Fs:List HP} {w0:World}
theorem yJ{ρ:Env}(a b:List SV):SV.bQ ρ (a++b)=SV.bQ ρ a++SV.bQ ρ b:=by
 induction a with
 | nil=>rfl
 | cons x r ih=>simp only [List.cons_append,SV.bQ,ih]
theorem HJ{ρ:Env}: ∀(l:List SV) (i:Nat),(SV.bQ ρ l)[i]? =(l[i]?).map (SV.val ρ)
 | [],i=>by simp [SV.bQ]
 | x::r,0=>by simp [SV.bQ]
 | x::r,i+1=>by simp only [SV.bQ,List.getElem?_cons_succ];exact HJ r i
theorem D7{ρ:Env}: ∀(l:List SV) (n s:Nat) (v:SV),look (eP n l) s=some v→n≤s∧l[s - n]? =some v
 | [],n,s,v,h=>by cases h
 | x::r,n,s,v,h=>by
  unfold eP look at h;split at h
  ·rename_i hs;rw [beq_iff_eq]at hs;subst hs;cases h;exact⟨Nat.le_refl _,by simp⟩
  ·rename_i hs;obtain⟨h1,h2⟩:=D7 (ρ:=ρ) r (n+1) s v h;refine⟨by omega,?_⟩;rw [show s - n=(s - (n+1))+1 by omega,List.getElem?_cons_succ];exact h2
theorem zj{c:cF}: ∀(l:List SV) (n:Nat),SV.qz c l=true→mH c (eP n l)=true
 | [],n,_=>rfl
 | x::r,n,h=>by
  simp only [SV.qz,ai]at h;simp only [eP,mH,List.all_cons,ai];exact⟨h.1,zj r (n+1) h.2⟩
theorem AE{ρ:Env}(az:List SV)(nt:Nat):HA (eP 0 az) ⟨nt,[]⟩ ρ {tmps:=(SV.bQ ρ az).toArray++Array.replicate (nt - (SV.bQ ρ az).toArray.size) undef,defers:=[]}:=by
 refine⟨rfl,by simp;omega,fun s v hs=>?_⟩;obtain⟨_,h2⟩:=D7 (ρ:=ρ) az 0 s v hs;rw [Nat.sub_zero]at h2;have h3:(SV.bQ ρ az)[s]? =some (v.val ρ):=by rw [HJ,h2];rfl
 rw [agS,Array.getElem?_append_left (by simpa using (agx.1 h3).1)];simp [h3]
theorem Q6{ρ:Env}{a:Act}{w:World}{fr:List (Nat×SV)}{nt:NT}(ha:HA fr nt ρ a){o:Oper}{f:Nat}{az:List SV}(h:BG (look fr) o=some (f,az))
  {fd:Func} (hf:P.funcs[f]? =some fd) (hn:(fd.name== "runtime.NumGoroutine")=false) {c:Code} (hb:fd.body=some c):
  (execOp a.eval o).run P w= .ok (.enter f (SV.bQ ρ az).toArray) w∧∀c,o.op≠ .defer c:=by
 unfold BG at h;split at h
 ·rename_i fop args argTypes H2;split at h
  ·rename_i f' kp as0 h1 h2;cases h;have e1:=fg ha.eval h1;have e2:=lJ ha.eval _ _ h2;have e3:Array.map a.eval args=(SV.bQ ρ as0).toArray:=aha (by rw [Array.toList_map,e2]);refine⟨?_,fun c hc=>by rw [H2]at hc;cases hc⟩;simp only [execOp,H2,resolve,e1,SV.val,Deferred.ofValue,agK,ag0,agG,invoke,callFunc,e3];have hn': ¬fd.name= "runtime.NumGoroutine" :=by simpa using hn
   simp [hf,hn',hb,yJ]
  ·cases h
 ·cases h
theorem TH{ρ:Env}{a:Act}{w:World}{fr:List (Nat×SV)}{nt:NT}(ha:HA fr nt ρ a){o:Oper}{f:Nat}{az:List SV}(h:BG (look fr) o=some (f,az)):
  (execOp a.eval o).run P w=(callFunc f (SV.bQ ρ az).toArray).run P w∧∀c,o.op≠ .defer c:=by
 unfold BG at h;split at h
 ·rename_i fop args argTypes H2;split at h
  ·rename_i f' kp as0 h1 h2;cases h;have e1:=fg ha.eval h1;have e2:=lJ ha.eval _ _ h2;have e3:Array.map a.eval args=(SV.bQ ρ as0).toArray:=aha (by rw [Array.toList_map,e2]);refine⟨?_,fun c hc=>by rw [H2]at hc;cases hc⟩;simp only [execOp,H2,resolve,e1,SV.val,Deferred.ofValue,agK,ag0,agG,invoke,e3,yJ];simp
  ·cases h
 ·cases h
theorem Ls{ro:Option Nat}{n:Nat}{f:FuncId}{args:Array Value}{w:World}{R:Ending→World→Prop}(h:Calls P f args w R):CallsIn (FW ro) n P f args w R:=by
 have:CallsIn Fence.wide n P f args w R:=callsIn_wide.2 h;exact this
theorem Q7{ro:Option Nat}{n:Nat}{f:FuncId}{args:Array Value}{w:World}{R:Ending→World→Prop}(h:CallsIn (FW none) n P f args w R):CallsIn (FW ro) n P f args w R:=h
theorem BS{fn:Func}{tmps:Array Value}{R:Ending→World→Prop}{u:FrameMode}(hu:u≠ .run){r:List Deferred}{i:Nat}: ∀{l:List Nat} {hs:List HP} {w:World},hs[i]? =some (l5 l)→aU (hs++Fs) w→
  (∀w',aU (hs.set i HP.emp++Fs) w'→gu w w'→LeavesInM (FW none) 0 P fn tmps R r u w')→LeavesInM (FW none) 0 P fn tmps R (l.map (fun b=>{target:= .collected b,args:= #[]})++r) u w
 | [],hs,w,hi,ho,hk=>by
  obtain⟨S,hS⟩:=ho;refine hk w ?_ (gu.refl w);have ew:=hS.at_ i _ (by rw [agC (agx.1 hi).1];exact hi);exact aU.step hS i _ _ hi rfl (fun _=>False) (Nat.le_refl _) (fun _ _ _=>rfl) (fun k hk=>hk) (fun k hk=>hk.elim)
 | b::l,hs,w,hi,ho,hk=>by
  obtain⟨S,hS⟩:=ho;have cZ:=(agx.1 hi).1;have ew:=hS.at_ i _ (by rw [agC cZ];exact hi);obtain⟨⟨p1,p2,p3⟩,p4⟩:=ew;have kP:w.heap[b]? =some (.deferred (some [])):=p3 b agA;have hbn:=(List.nodup_cons.1 p2);refine⟨hu,.inl ⟨b,w.putObj b (.deferred none),rfl,run_takeDeferred kP,?_⟩⟩;have cU:aU (hs.set i (l5 l)++Fs) (w.putObj b (.deferred none)):=by
   refine aU.step hS i _ _ hi rfl (fun k=>k∈l) (by simp [World.putObj]) (fun k hk hn=>?_) ⟨fun k=>Iff.rfl,hbn.2,fun k hk=>?_⟩ (fun k hk=> .inl ((p1 k).2 (agF _ hk)))
   ·exact World.putObj_heap_other (fun e=>hn ((p1 k).2 (by rw [e];exact agA)))
   ·rw [World.putObj_heap_other (fun e=>hbn.1 (by rw [←e];exact hk))];exact p3 k (agF _ hk)
  refine BS hu (l:=l) (hs:=hs.set i (l5 l)) (by rw [List.getElem?_set_self cZ]) cU fun w' NG yj=>?_
  rw [List.set_set]at NG;exact hk w' NG ((show gu w (w.putObj b (.deferred none))from⟨rfl,rfl,rfl,by simp⟩).trans yj)
theorem rS{fn:Func}{tmps:Array Value}{R:Ending→World→Prop}{u:FrameMode}(hu:u≠ .run){ρ:Env}: ∀{ds:List MK} {hp mQ:List Ck} {w:World},leave hp ds=some mQ→aU (hp.map (Ck.den ρ)++Fs) w→
  (∀w',aU (mQ.map (Ck.den ρ)++Fs) w'→gu w w'→LeavesInM (FW none) 0 P fn tmps R [] u w')→LeavesInM (FW none) 0 P fn tmps R (marks ρ ds) u w
 | [],hp,mQ,w,h,ho,hk=>by
  simp only [leave,agy]at h;subst h;exact hk w ho (gu.refl w)
 | .many d::ds,hp,mQ,w,h,ho,hk=>by
  unfold leave at h;split at h
  ·rename_i i hi;rw [List.findIdx?_eq_some_iff_getElem]at hi;obtain⟨cZ,hd,_⟩:=hi;have Cc:hp[i]? =some (.qA d):=by
    cases hc:hp[i]with
    | qA b=>
     rw [hc]at hd;simp only [Ck.xF,beq_iff_eq]at hd;subst hd;rw [ag6 cZ,hc]
    | _=>rw [hc]at hd;simp [Ck.xF]at hd
   have Mj:(hp.map (Ck.den ρ))[i]? =some (l5 (qK (ρ.bv.getD d 0))):=by rw [List.getElem?_map,Cc];rfl
   rw [show marks ρ (.many d::ds)=(qK (ρ.bv.getD d 0)).map (fun b=>{target:= .collected b,args:= #[]})++marks ρ ds by simp only [marks,List.flatMap_cons,MK.blocks,List.map_append]];refine BS hu Mj ho fun w' NG yj=>?_
   have ZN:aU ((hp.set i .emp).map (Ck.den ρ)++Fs) w':=by rw [List.map_set];exact NG
   exact rS hu h ZN fun w2 h2 acZ=>hk w2 h2 (yj.trans acZ)
  ·cases h
 | .one d::ds,hp,mQ,w,h,ho,hk=>by
  unfold leave at h;split at h
  ·rename_i i hi;rw [List.findIdx?_eq_some_iff_getElem]at hi;obtain⟨cZ,hd,_⟩:=hi;have Cc:hp[i]? =some (.Mb d):=by
    cases hc:hp[i]with
    | Mb b=>
     rw [hc]at hd;simp only [Ck.D4,beq_iff_eq]at hd;subst hd;rw [ag6 cZ,hc]
    | _=>rw [hc]at hd;simp [Ck.D4]at hd
   obtain⟨S,hS⟩:=ho;have Mj:(hp.map (Ck.den ρ))[i]? =some (zN (ρ.bv.getD d 0)):=by rw [List.getElem?_map,Cc];rfl
   have ew:=hS.at_ i _ (by rw [agC (by simpa using cZ)];exact Mj);have kP:w.heap[ρ.bv.getD d 0]? =some (.deferred (some [])):=ew.1.2;have hbl:ρ.bv.getD d 0<w.heap.size:=(agH.1 kP).1;refine⟨hu,.inl ⟨ρ.bv.getD d 0,w.putObj (ρ.bv.getD d 0) (.deferred none),rfl,run_takeDeferred kP,?_⟩⟩;have cU:aU ((hp.set i .emp).map (Ck.den ρ)++Fs) (w.putObj (ρ.bv.getD d 0) (.deferred none)):=by
    rw [List.map_set];refine aU.step hS i _ _ Mj rfl (fun _=>False) (by simp [World.putObj]) (fun k hk hn=>?_) (fun k hk=>hk) (fun k hk=>hk.elim);exact World.putObj_heap_other (fun e=>hn ((ew.1.1 k).2 e))
   refine rS hu h cU fun w' NG yj=>hk w' NG ((show gu w (w.putObj (ρ.bv.getD d 0) (.deferred none))from⟨rfl,rfl,rfl,by simp⟩).trans yj)
  ·cases h
theorem BT{c:cF}: ∀{ds:List MK} {hp mQ:List Ck},leave hp ds=some mQ→hp.all (Ck.sc c)=true→mQ.all (Ck.sc c)=true
 | [],hp,mQ,h,hs=>by simp only [leave,agy]at h;subst h;exact hs
 | .many d::ds,hp,mQ,h,hs=>by
  unfold leave at h;split at h
  ·refine BT h (agv.2 fun x hx=>?_);rcases ag2 hx with hx | rfl
   ·exact agv.1 hs x hx
   ·rfl
  ·cases h
 | .one d::ds,hp,mQ,h,hs=>by
  unfold leave at h;split at h
  ·refine BT h (agv.2 fun x hx=>?_);rcases ag2 hx with hx | rfl
   ·exact agv.1 hs x hx
   ·rfl
  ·cases h
theorem oF{fd:Func}{R:Ending→World→Prop}{st dD:St}{ρ:Env}{a:Act}{w:World}(h:nV st=some dD)(hw:HW Fs w0 st ρ w)(ha:HA st.fr st.nt ρ a)
  (hk: ∀w',HW Fs w0 dD ρ w'→∃v,(results fd a.tmps).run P w'= .ok v w'∧R (.returned v) w'):LeavesInM (FW none) 0 P fd a.tmps R a.defers .returning w:=by
 unfold nV at h;rw [agz]at h;obtain⟨mQ,hl,rfl⟩:=h;rw [ha.defers];refine rS (by simp) hl hw.own fun w' ho yj=>?_
 obtain⟨v,h1,h2⟩:=hk w' ⟨hw.lens,hw.lX,BT hl hw.gF,hw.oO,hw.kn,ho,hw.same.trans yj,hw.mP⟩;exact⟨v,h1,h2⟩
theorem HK(hT:bC P C.T=true){n:Nat}(yh:rk P C aq Fs w0 n){c:Code}{fd:Func}{f:Nat}(hf:P.funcs[f]? =some fd)(hb:fd.body=some c){k:List KI}{st:St}{ρ:Env}{L:Nat→LC}{w:World}{az:List SV}{fn:Nat}{nt:NT}{fr:List (Nat×SV)}{d:Option Nat}
  (hv:VC P aq (run C n (.code c:: .call fn nt fr d fd::k) (fW st f ⟨fd.ntmps,[]⟩ (eP 0 az))) ρ L) (jx:SV.qz st.aS az=true) (hw:HW Fs w0 st ρ w) (hrf: ∀l r fn nt fr ps x y fd,KI.rf l r fn nt fr ps x y fd∈k→∃yi c0,gK yi c0∧Env.Le yi ρ∧mH c0 fr=true∧r<c0.r∧(yi.lr.getD r iG).params=ps∧(yi.lr.getD r iG).assign=x∧(yi.lr.getD r iG).body=y∧HA fr ⟨nt.n,[]⟩ yi {tmps:=(yi.lr.getD r iG).tmps,defers:=[]}) {R:Ending→World→Prop}
  (hR: ∀v w' m dD bI L',m<n→Env.Le ρ bI→(∀j,j<nl k→L' j=L j)→HW Fs w0 dD bI w'→v.sc dD.aS=true→rj (fW dD fn nt fr) d=true→
   VC P aq (run C m k ((fW dD fn nt fr).put d v)) bI L'→R (.returned (v.val bI)) w'):
  CallsIn (FW none) 0 P f (SV.bQ ρ az).toArray w R:=by
 refine callsIn_of_wp_marks hf hb trivial ?_ rfl;have X3:HW Fs w0 (fW st f ⟨fd.ntmps,[]⟩ (eP 0 az)) ρ w:=⟨hw.lens,zj az 0 jx,hw.gF,hw.oO,hw.kn,hw.own,hw.same,rfl⟩;refine wpIn_mono (yh none c _ _ ρ L _ w hv X3 (AE az fd.ntmps) ⟨fun l r fn nt fr ps x y fd hm=>hrf l r fn nt fr ps x y fd (by simpa using hm),rfl⟩) ?_;have key: ∀a' w',At P C aq Fs w0 n (.call fn nt fr d fd::k) ρ L a' w'→LeavesInM (FW none) 0 P fd a'.tmps R a'.defers .returning w':=by
  intro a' w' ⟨m,hm,dD,bI,L',h1,h2,h3,h4,h5⟩;cases m with
  | zero=>exact h5.elim
  | succ m=>
   simp only [run]at h5;split at h5
   case h_2=>exact h5.elim
   rename_i Gk BW;have Ou:Gk.fr=dD.fr∧Gk.nt=dD.nt∧Gk.aS=dD.aS:=by
    unfold nV at BW;rw [agz]at BW;obtain⟨mQ,_,rfl⟩:=BW;exact⟨rfl,rfl,rfl⟩
   split at h5
   ·rename_i v hv;split at h5
    ·rename_i hc;simp only [ai]at hc;refine oF BW h3 h4 fun w2 Gm=>?_
     refine⟨_,qb hT Gm (nt:=dD.nt) (by rw [Ou.1];exact h4) hv,hR v w2 m Gk bI L' (by omega) h1 h2 Gm hc.2 hc.1 h5⟩
    ·exact h5.elim
   ·exact h5.elim
 intro e a' w' hq;obtain⟨k',hk,ew⟩:=hq;cases e with
 | normal=>cases hk;exact key a' w' ew
 | ret=>cases hk;exact key a' w' ew
 | exit id=>cases hk
 | goto l=>cases hk
 | panic l=>cases hk
 | outgrown=>cases hk
theorem vz{st:St}{d:Option Nat}(h:rj st d=true): ∀x,d=some x→x<st.nt.n:=by
 intro x hx;subst hx;simpa [rj,agM] using h
theorem uF{hp:List Ck}{l i r:Nat}{s:RS}{j:Jump}(h:recAt hp l=some (i,r,s,j)):hp[i]? =some (.mg l r s j):=by
 unfold recAt at h;split at h
 ·rename_i q hq;split at h
  ·rename_i l' r' s' j' hg;cases h;rw [List.findIdx?_eq_some_iff_getElem]at hq;obtain⟨cZ,hd,_⟩:=hq;rw [ag6 cZ,agy]at hg;rw [hg]at hd;simp only [Ck.isRec,beq_iff_eq]at hd;subst hd;rw [ag6 cZ,hg]
  ·cases h
 ·cases h
theorem wm{l:Nat}: ∀{k:List KI} {r fn:Nat} {nt:NT} {fr:List (Nat×SV)} {ps:Array Tmp} {x y:Code},sJ l k=some (r,fn,nt,fr,ps,x,y)→∃fd,KI.rf l r fn nt fr ps x y fd∈k
 | [],_,_,_,_,_,_,_,h=>by cases h
 | i::k,r,fn,nt,fr,ps,x,y,h=>by
  have go:sJ l k=some (r,fn,nt,fr,ps,x,y)→∃fd,KI.rf l r fn nt fr ps x y fd∈i::k:=fun h'=>by
   obtain⟨fd,hm⟩:=wm h';exact⟨fd,agF _ hm⟩
  cases i with
  | rf l' r' fn' zz H6 ps' x' y' X7=>
   unfold sJ at h;split at h
   ·rename_i hl;rw [beq_iff_eq]at hl;cases h;subst hl;exact⟨X7,agA⟩
   ·exact go h
  | _=>exact go h
theorem mR{st:St}{ρ:Env}{w:World}(hw:HW Fs w0 st ρ w){l i r:Nat}{s:RS}{j:Jump}(h:recAt st.hp l=some (i,r,s,j)):
  w.heap[ρ.bv.getD l 0]? =some (.loop {ρ.lr.getD r iG with state:=s.st,pending:=j.code}):=by
 obtain⟨S,hS⟩:=hw.own;have hi:=uF h;have cZ:=(agx.1 hi).1;exact(hS.at_ i ((Ck.mg l r s j).den ρ) (by rw [agC (by simpa using cZ),List.getElem?_map,hi];rfl)).1.2
theorem EF{st:St}{ρ:Env}{w:World}(hw:HW Fs w0 st ρ w){l i r:Nat}{s:RS}{j:Jump}(h:recAt st.hp l=some (i,r,s,j))(s':RS)(j':Jump):
  HW Fs w0 {st with hp:=st.hp.set i (.mg l r s' j')} ρ (w.putObj (ρ.bv.getD l 0) (.loop {ρ.lr.getD r iG with state:=s'.st,pending:=j'.code})):=by
 have hi:=uF h;have hb:=mR hw h;have hbl:ρ.bv.getD l 0<w.heap.size:=(agH.1 hb).1;have cZ:=(agx.1 hi).1;obtain⟨S,hS⟩:=hw.own;have Mj:(st.hp.map (Ck.den ρ))[i]? =some ((Ck.mg l r s j).den ρ):=by rw [List.getElem?_map,hi];rfl
 have ew:=hS.at_ i _ (by rw [agC (by simpa using cZ)];exact Mj);have jx:=agv.1 hw.gF _ (List.mem_of_getElem? hi);refine⟨hw.lens,hw.lX,agv.2 fun q hq=>?_,hw.oO,hw.kn,?_,hw.same.trans ⟨rfl,rfl,rfl,by simp⟩,hw.mP⟩
 ·rcases ag2 hq with hq | rfl
  ·exact agv.1 hw.gF q hq
  ·exact jx
 ·show aU ((st.hp.set i (.mg l r s' j')).map (Ck.den ρ)++Fs) _;rw [List.map_set];refine aU.step hS i _ _ Mj rfl (S i) (by simp) (fun k hk hn=>World.putObj_heap_other (fun e=>hn ((ew.1.1 k).2 e))) ⟨ew.1.1,?_⟩ (fun k hk=> .inl hk);exact World.putObj_heap_same hbl
theorem wo{ρ:Env}: ∀{l:List (Nat×SV)} {st mL:St} {a:Act} {w:World},mj st l=some mL→HW Fs w0 st ρ w→HA st.fr st.nt ρ a→
  HW Fs w0 mL ρ w∧HA mL.fr mL.nt ρ (l.foldl (fun a x=>a.put (some x.1) (x.2.val ρ)) a)∧mL.aS=st.aS∧mL.hp=st.hp
 | [],st,mL,a,w,h,hw,ha=>by
  simp only [mj,agy]at h;subst h;exact⟨hw,ha,rfl,rfl⟩
 | (d,v)::r,st,mL,a,w,h,hw,ha=>by
  unfold mj at h;split at h
  ·rename_i hc;rw [ai]at hc;have vq:=ha.put (d:=some d) (v:=v) (u:=v.val ρ) (vz hc.1) rfl st rfl;have e:=eF st (some d) v;obtain⟨h1,h2,h3,h4⟩:=wo h (hw.put hc.2) (by rw [e.2.2.2.1];exact vq);exact⟨h1,h2,h3.trans e.2.1,h4.trans e.1⟩
  ·cases h
theorem Nw{ρ:Env}{a:Act}{w:World}{fr:List (Nat×SV)}{nt:NT}(ha:HA fr nt ρ a){o:Oper}{l:Nat}{az:List SV}(h:QR (look fr) o=some (l,az)){r:Loop}(hb:w.heap[ρ.bv.getD l 0]? =some (.loop r))
  (hs:az.length=r.params.size):
  (execOp a.eval o).run P w= .ok (.round (ρ.bv.getD l 0) r.fn ((r.params.zip (SV.bQ ρ az).toArray).foldl (fun tmps (t,a)=>tmps.setIfInBounds t a) r.tmps) r.assign r.body) w∧∀c,o.op≠ .defer c:=by
 unfold QR at h;split at h
 ·rename_i fop args argTypes H2;split at h
  ·rename_i l' as0 h1 h2;cases h;have e1:=fg ha.eval h1;have e2:=lJ ha.eval _ _ h2;have e3:Array.map a.eval args=(SV.bQ ρ az).toArray:=aha (by rw [Array.toList_map,e2]);refine⟨?_,fun c hc=>by rw [H2]at hc;cases hc⟩;have hlen: ∀l:List SV,(SV.bQ ρ l).length=l.length:=by
    intro l;induction l with
    | nil=>rfl
    | cons x r ih=>simp [SV.bQ,ih]
   have hy:=run_yield (P:=P) (args:=(SV.bQ ρ az).toArray) hb (by simp [hlen,hs]);simp only [execOp,H2,resolve,e1,SV.val,Deferred.ofValue,agK,ag0,agG,invoke,e3,Array.empty_append];exact hy
  ·cases h
 ·cases h
theorem J9{ρ:Env}(ps:Array Tmp)(az:List SV)(t:Array Value):
  (ps.toList.zip az).foldl (fun a x=>a.put (some x.1) (x.2.val ρ)) ({tmps:=t,defers:=[]}:Act)=
   {tmps:=(ps.zip (SV.bQ ρ az).toArray).foldl (fun tmps (t,a)=>tmps.setIfInBounds t a) t,defers:=[]}:=by
 rw [←Array.foldl_toList,Array.toList_zip];generalize ps.toList=l
 induction l generalizing az t with
 | nil=>rfl
 | cons d l ih=>
  cases az with
  | nil=>rfl
  | cons v az=>
   simp only [List.zip_cons_cons,List.foldl_cons,SV.bQ];exact ih az _
theorem Gt(hT:bC P C.T=true)(DB:bf P C.FT)(Gr:gN P C){n:Nat}(yh: ∀m,m<n→rk P C aq Fs w0 m)(NH: ∀m,m<n→uh P C aq Fs w0 m):uh P C aq Fs w0 n:=by
 intro ro all r k st ρ L a w hv hw ha gi;cases n with
 | zero=>exact hv.elim
 | succ n=>
  have hn:n<n+1:=Nat.lt_succ_self n;have up: ∀{e:Exit} {a:Act} {w:World} {bI:Env} {L':Nat→LC},Env.Le ρ bI→(∀j,j<nl k→L' j=L j)→QK P C aq Fs w0 n k bI L' e a w→QK P C aq Fs w0 (n+1) k ρ L e a w:=fun h1 h2 hq=>hq.mono (Nat.le_succ n) h1 h2
  cases r with
  | nil=>
   simp only [run]at hv;exact QK.here hn rfl hv hw ha
  | cons o r=>
   simp only [run]at hv;split at hv
   case isFalse=>exact hv.elim
   rename_i yV;have hd:=vz yV;have hd0:=hd;have next: ∀{m:Nat} (dD:St) (v:SV) (u:Value) (bI:Env) (L':Nat→LC) (w':World),m≤n→Env.Le ρ bI→(∀j,j<nl k→L' j=L j)→dD.fr=st.fr→dD.nt=st.nt→HW Fs w0 dD bI w'→v.sc dD.aS=true→u=v.val bI→
     VC P aq (run C m (.ops all r::k) (dD.put o.dst v)) bI L'→wpListIn (FW ro) 0 P all (QK P C aq Fs w0 (n+1) k ρ L) r (a.put o.dst u) w':=by
    intro m dD v u bI L' w' hm h1 h2 TS NF h3 h4 h5 h6;have eV:=Env.Le.agree hw.lens h1;have vq:=(ha.more hw.lX hw.mP eV).put (d:=o.dst) (v:=v) (u:=u) hd h5 dD TS;have:=NH m (by omega) ro all r k _ bI L' (a.put o.dst u) w' h6 (h3.put h4) (by rw [(eF dD o.dst v).2.2.2.1,NF];exact vq) (gi.le h1);exact fB (fun e a w hq=>hq.mono (by omega) h1 h2) this
   have BU: ∀{m:Nat} (v:SV) (u:Value),m≤n→v.sc st.aS=true→u=v.val ρ→VC P aq (run C m (.ops all r::k) (st.put o.dst v)) ρ L→wpListIn (FW ro) 0 P all (QK P C aq Fs w0 (n+1) k ρ L) r (a.put o.dst u) w:=
    fun v u hm h1 h2 h3=>next st v u ρ L w hm (Env.Le.refl _) (fun _ _=>rfl) rfl rfl hw h1 h2 h3
   unfold wpListIn;split at hv
   ·exact hv.elim
   ·
    rename_i hg;have na:=lx ha hw.kn hg;simp only [oE,BE.den]at na;rw [if_neg (by rw [na];simp)];exact⟨fun _ _=>trivial,BU .undef undef (Nat.le_refl _) rfl rfl hv⟩
   ·
    rename_i c eL hg;have na:=lx ha hw.kn hg;simp only [oE]at na;split at hv
    case isFalse=>exact hv.elim
    rename_i l6;have fork:VC P aq (.fork c (run C n (.ops all ({o with guard:=none}::r)::k) (st.J0 c)) (run C n (.ops all r::k) ((st.sR c).put o.dst .undef))) ρ L→
      (if Region.wanted o (yielded all a.tmps)=true then o.wpIn (FW ro) 0 P a w (wpListIn (FW ro) 0 P all (QK P C aq Fs w0 (n+1) k ρ L) r) (QK P C aq Fs w0 (n+1) k ρ L)
       else(∀f,o.about P w a.eval=some f→(FW ro).fn f)∧wpListIn (FW ro) 0 P all (QK P C aq Fs w0 (n+1) k ρ L) r (a.put o.dst undef) w):=by
     intro hf;simp only [VC,aK]at hf;rw [na];cases hd:c.den ρ with
     | true=>
      rw [if_pos rfl];have zh:HW Fs w0 (st.J0 c) ρ w:=by
       have:=hw.know ((BE.cq ρ c).1 hd) l6;refine⟨this.lens,agv.2 fun x hx=>?_,this.gF,this.oO,this.kn,this.own,this.same,this.mP⟩;obtain⟨y,hy,rfl⟩:=ag9.1 hx;exact SV.WS (agv.1 hw.lX y hy)
      have h1:=NH n hn ro all ({o with guard:=none}::r) k (st.J0 c) ρ L a w (hf.1 ((BE.cq ρ c).1 hd)) zh (HA.J0 ha hd) gi;unfold wpListIn at h1;rw [if_pos (by simp [Region.wanted])]at h1;exact CO (Oper.Aw (fun a w h=>fB (fun e a w hq=>up (Env.Le.refl _) (fun _ _=>rfl) hq) h) (fun e a w hq=>up (Env.Le.refl _) (fun _ _=>rfl) hq) h1)
     | false=>
      rw [if_neg (by simp)];have Gm:HW Fs w0 (st.sR c) ρ w:=by
       have:=hw.know (b:=iT c) (by rw [←BE.cq,dG,hd];rfl) (Fv l6);refine⟨this.lens,agv.2 fun x hx=>?_,this.gF,this.oO,this.kn,this.own,this.same,this.mP⟩;obtain⟨y,hy,rfl⟩:=ag9.1 hx;exact SV.TG (agv.1 hw.lX y hy)
      have Xf:=(HA.sR ha hd).put (d:=o.dst) (v:= .undef) (u:=undef) hd0 rfl (st.sR c) rfl;have:=NH n hn ro all r k _ ρ L (a.put o.dst undef) w (hf.2 fun h=>by rw [←BE.cq,hd]at h;cases h) (Gm.put rfl) (by rw [(eF (st.sR c) o.dst .undef).2.2.2.1];exact Xf) gi;exact⟨fun _ _=>trivial,fB (fun e a w hq=>hq.mono (by omega) (Env.Le.refl _) fun _ _=>rfl) this⟩
    split at hv
    ·rename_i res Gj;obtain⟨Gh,Mk⟩:=mI Gj;split at hv
     ·rename_i Sf;obtain⟨cu,hv⟩:=iE hw.kn hv;simp only [oE]at cu;rw [na];have jx:=Mk;simp only [iC.sc,ai,Sf,Ch.grow]at jx;cases hd:c.den ρ with
      | true=>
       rw [if_pos rfl];obtain⟨S,hS⟩:=hw.own;have hD:=ri (P:=P) hT (Env.ok ρ) (ha.wZ hw.kn (g:=some c) hd) Gh (AD S hS _) (cu hd) hw.lens.b;unfold Did at hD;rw [Sf]at hD;refine nU (w5 Gh) (.inl hD) ?_;refine BU (.opt c res.val) _ (Nat.le_refl _) ?_ ?_ hv
       ·simp only [SV.sc,ai];exact⟨l6,jx.1.1⟩
       ·simp only [SV.val,hd,if_true]
      | false=>
       rw [if_neg (by simp)];refine⟨fun _ _=>trivial,BU (.opt c res.val) undef (Nat.le_refl _) ?_ ?_ hv⟩
       ·simp only [SV.sc,ai];exact⟨l6,jx.1.1⟩
       ·simp [SV.val,hd]
     ·exact fork hv
    ·exact fork hv
   ·
    rename_i hg;have na:=lx ha hw.kn hg;simp only [oE]at na;rw [if_pos na];split at hv
    ·rename_i res Gj;obtain⟨Gh,Mk⟩:=mI Gj;obtain⟨cu,hv⟩:=iE hw.kn hv;have cu:=cu rfl;obtain⟨S,hS⟩:=hw.own;have hD:=ri (P:=P) hT (Env.ok ρ) (ha.wZ hw.kn (g:=none) rfl) Gh (AD S hS _) cu hw.lens.b;have sO:VC P aq (Zp res.ij (run C n (.ops all r::k) (({dA st res.ij with known:=more res.vcs st.known}:St).put o.dst res.val))) ρ L:=by
      cases he:res.ij<;>rw [he]at hv<;>exact hv
     obtain⟨u,w',bI,iL,hle,X3,hu,ac1,HY⟩:=Q0 hw hS hD Mk cu sO;refine nU (w5 Gh) iL ?_;obtain⟨e1,e2,e3,e4,e5⟩:=CM st res.ij;exact next {dA st res.ij with known:=more res.vcs st.known} res.val u bI L w' (Nat.le_refl _) hle (fun _ _=>rfl) e1 e2 X3 (by rw [show({dA st res.ij with known:=more res.vcs st.known}:St).aS=(dA st res.ij).aS from rfl,e5];exact ac1) hu HY
    ·split at hv
     ·rename_i f az rl;split at hv
      ·exact hv.elim
      ·rename_i fd AF;have IG:=List.mem_of_find?_eq_some AF;have Il:=List.find?_some AF;simp only [beq_iff_eq]at Il;obtain⟨hf,Gp⟩:=DB _ IG;simp only at hf Gp;rw [Il]at hf;split at hv
       ·split at hv
        case h_2=>exact hv.elim
        rename_i ca hca;split at hv
        case isFalse=>exact hv.elim
        rename_i jx;simp only [ai,decide_eq_true_eq]at jx;obtain⟨⟨⟨iX,vw⟩,lA⟩,FE⟩:=jx;have cZ: ∀i∈ca.use az st.hp,i<st.hp.length:=fun i hi=>by simpa [agM] using agv.1 lA i hi
        simp only [VC]at hv;obtain⟨post,BV,Q8⟩:=hv;have cU:=aU.vm (acc:=[]) (use:=ca.use az st.hp) (by simpa using hw.own) FE (by simpa using cZ);have J8:((ca.use az st.hp).map fun i=>st.hp.getD i .emp).map (Ck.den ρ)=(ca.use az st.hp).map (fun i=>(st.hp.map (Ck.den ρ)).getD i HP.emp):=by
         rw [List.map_map];refine ag4 fun i hi=>?_
         have:=cZ i hi;simp [this]
        rw [List.nil_append,←J8]at cU;obtain⟨v,hs,w',hR,hp,BR,fQ⟩:=BV w _ cU;obtain⟨iL,gE⟩:=TH (P:=P) (w:=w) ha rl;have hx:=Q8 v hs hp;rw [kY]at hx;obtain⟨e2,tZ,rfl,rfl,HY⟩:=hx;have hle:=Env.gL ρ e2;have eV:=Env.Le.agree hw.lens hle;refine nU gE (.inl (iL.trans hR)) ?_;refine next {st with hp:=fS st.hp (ca.use az st.hp) (ca.new st.aS ((ca.use az st.hp).map fun i=>st.hp.getD i .emp)),aS:=st.aS.add ca.inc} (sH ca az st.hp st.aS) _ (ρ.ext e2) L w' (Nat.le_refl _) hle (fun _ _=>rfl) rfl rfl ?_ iX rfl HY;refine⟨hw.lens.ext tZ,cO (cF.k9 _ _) hw.lX,?_,fk (cF.k9 _ _) hw.oO,fun b hb=>?_,?_,hw.same.trans fQ,dz (cF.k9 _ _) hw.mP⟩
        ·exact mU _ _ rfl _ _ _ (i_ (cF.k9 _ _) hw.gF) vw
        ·exact(BE.gT eV (agv.1 hw.oO b hb)).1 (hw.kn b hb)
        ·have h1:=aU.mj (use:=ca.use az st.hp) BR (fun i hi=>by rw [mG];simpa using cZ i hi) fun _ _=> .inr trivial
         rw [←jz _ _ _ FE,kX eV hw.gF]at h1;simp only [fS];rw [mO];exact h1
       ·rename_i c hb;obtain⟨iL,gE⟩:=Q6 (P:=P) (w:=w) ha rl hf Gp hb;refine⟨fun _ _=>trivial,?_⟩;rw [Oper.semAt_eq _ _ _ gE,iL,Oper.uponIn_enter];refine⟨fun h=>(by cases h),?_⟩;split at hv
        ·rename_i r0 ac2;split at hv
         case isFalse=>exact hv.elim
         rename_i jx;simp only [ai,decide_eq_true_eq]at jx;obtain⟨⟨⟨iX,vw⟩,lA⟩,FE⟩:=jx;obtain⟨cu,hv⟩:=iE hw.kn hv;have cZ: ∀i∈r0.use,i<st.hp.length:=fun i hi=>by simpa [agM] using agv.1 lA i hi
         have BV:=Gr f az st.hp r0 ρ ac2 (cu rfl);have cU:=aU.vm (acc:=[]) (use:=r0.use) (by simpa using hw.own) FE (by simpa using cZ);have J8:(r0.use.map fun i=>st.hp.getD i .emp).map (Ck.den ρ)=r0.use.map (fun i=>(st.hp.map (Ck.den ρ)).getD i HP.emp):=by
          rw [List.map_map];refine ag4 fun i hi=>?_
          have:=cZ i hi;simp [this]
         rw [List.nil_append,←J8]at cU;refine Ls ?_;have hc:=BV w _ cU;intro cs;obtain⟨e,w',H6,hR,Q9,Z_,J_⟩:=hc cs;refine⟨e,w',H6,?_,Q9,Z_,J_⟩;obtain⟨x,hs,rfl,⟨hx,rfl⟩,BR,fQ⟩:=hR;subst hx;refine next {st with hp:=fS st.hp r0.use r0.new} r0.val _ ρ L w' (Nat.le_refl _) (Env.Le.refl _) (fun _ _=>rfl) rfl rfl ⟨hw.lens,hw.lX,?_,hw.oO,hw.kn,?_,hw.same.trans fQ,hw.mP⟩ iX rfl hv
         ·exact mU _ _ rfl _ _ _ hw.gF vw
         ·have h1:=aU.mj (use:=r0.use) BR (fun i hi=>by rw [mG];simpa using cZ i hi) fun _ _=> .inr trivial
          rw [←jz _ _ _ FE]at h1;simp only [fS];rw [mO];exact h1
        split at hv
        ·rename_i ca hca;split at hv
         case isFalse=>exact hv.elim
         rename_i jx;simp only [ai,decide_eq_true_eq]at jx;obtain⟨⟨⟨iX,vw⟩,lA⟩,FE⟩:=jx;have cZ: ∀i∈ca.use az st.hp,i<st.hp.length:=fun i hi=>by simpa [agM] using agv.1 lA i hi
         simp only [VC]at hv;obtain⟨post,BV,Q8⟩:=hv;have cU:=aU.vm (acc:=[]) (use:=ca.use az st.hp) (by simpa using hw.own) FE (by simpa using cZ);have J8:((ca.use az st.hp).map fun i=>st.hp.getD i .emp).map (Ck.den ρ)=(ca.use az st.hp).map (fun i=>(st.hp.map (Ck.den ρ)).getD i HP.emp):=by
          rw [List.map_map];refine ag4 fun i hi=>?_
          have:=cZ i hi;simp [this]
         rw [List.nil_append,←J8]at cU;refine Ls ?_;have hc:=BV w _ cU;intro cs;obtain⟨e,w',H6,hR,Q9,Z_,J_⟩:=hc cs;refine⟨e,w',H6,?_,Q9,Z_,J_⟩;obtain⟨v,hs,rfl,hp,BR,fQ⟩:=hR;have hx:=Q8 v hs hp;rw [kY]at hx;obtain⟨e2,tZ,rfl,rfl,HY⟩:=hx;have hle:=Env.gL ρ e2;have eV:=Env.Le.agree hw.lens hle;refine next {st with hp:=fS st.hp (ca.use az st.hp) (ca.new st.aS ((ca.use az st.hp).map fun i=>st.hp.getD i .emp)),aS:=st.aS.add ca.inc} (sH ca az st.hp st.aS) _ (ρ.ext e2) L w' (Nat.le_refl _) hle (fun _ _=>rfl) rfl rfl ?_ iX rfl HY;refine⟨hw.lens.ext tZ,cO (cF.k9 _ _) hw.lX,?_,fk (cF.k9 _ _) hw.oO,fun b hb=>?_,?_,hw.same.trans fQ,dz (cF.k9 _ _) hw.mP⟩
         ·exact mU _ _ rfl _ _ _ (i_ (cF.k9 _ _) hw.gF) vw
         ·exact(BE.gT eV (agv.1 hw.oO b hb)).1 (hw.kn b hb)
         ·have h1:=aU.mj (use:=ca.use az st.hp) BR (fun i hi=>by rw [mG];simpa using cZ i hi) fun _ _=> .inr trivial
          rw [←jz _ _ _ FE,kX eV hw.gF]at h1;simp only [fS];rw [mO];exact h1
        ·split at hv
         case isFalse=>exact hv.elim
         rename_i jx;refine Q7 (HK hT (yh n hn) hf hb hv jx hw (fun l r fn nt fr ps x y fd hm=>gi.rf l r fn nt fr ps x y fd (by simpa using hm)) ?_);intro v w' m dD bI L' hm h1 h2 h3 h4 h5 h6;have eL:=gK.le hw.lens h3.lens h1;have Kt:HW Fs w0 (fW dD st.fn st.nt st.fr) bI w':=⟨h3.lens,cO eL hw.lX,h3.gF,h3.oO,h3.kn,h3.own,h3.same,dz eL hw.mP⟩;exact next (fW dD st.fn st.nt st.fr) v _ bI L' w' (Nat.le_of_lt hm) h1 h2 rfl rfl Kt h4 rfl h6
     ·split at hv
      case h_2=>exact hv.elim
      rename_i l az W0;split at hv
      case h_2=>exact hv.elim
      rename_i rr fn nt fr ps x y i' r' s' j' AF IK;split at hv
      case isFalse=>exact hv.elim
      rename_i hc;rw [ai,decide_eq_true_eq,beq_iff_eq]at hc;obtain⟨rfl,hlen⟩:=hc;split at hv
      case h_2=>exact hv.elim
      rename_i mL qT;obtain⟨fd,IG⟩:=wm AF;obtain⟨yi,c0,k1,k2,k3,k4,k5,k6,k7,k8⟩:=gi.rf l rr fn nt fr ps x y fd IG;have Zt:=Env.Le.agree k1 k2;have hlr:yi.lr.getD rr iG=ρ.lr.getD rr iG:=Zt.r _ k4;rw [hlr]at k5 k6 k7 k8;have kP:=mR hw IK;obtain⟨iL,gE⟩:=Nw (P:=P) ha W0 kP (by rw [hlen,←k5]);refine⟨fun _ _=>trivial,?_⟩;rw [Oper.semAt_eq _ _ _ gE,iL,Oper.uponIn_round];refine⟨fun h=>(by cases h),?_⟩;refine roundIn_of_wpIn trivial ?_;simp only [k5,k6,k7];have zh:HW Fs w0 (fW st fn ⟨nt.n,[]⟩ fr) ρ w:=⟨hw.lens,cO (gK.le k1 hw.lens k2) k3,hw.gF,hw.oO,hw.kn,hw.own,hw.same,rfl⟩;have IL:HA fr ⟨nt.n,[]⟩ ρ {tmps:=(ρ.lr.getD rr iG).tmps,defers:=[]}:=k8.more k3 rfl Zt;obtain⟨Gm,Xf,ad5,_⟩:=wo qT zh IL;rw [J9]at Xf;have L9:FW ro=FW ro:=rfl;have hlb:l<st.aS.b:=by
       have:=agv.1 hw.gF _ (List.mem_of_getElem? (uF IK));simp only [Ck.sc,ai,agM]at this;exact this.1
      have Gq:ED ρ (.begin l:: .code y:: .round l st.fn st.nt st.fr o.dst:: .ops all r::k) (some (ρ.bv.getD l 0)):=
       ⟨fun l r fn nt fr ps x y fd hm=>gi.rf l r fn nt fr ps x y fd (by simpa using hm),⟨ρ,st.aS,hw.lens,Env.Le.refl _,hlb,rfl⟩⟩
      refine wpIn_mono (yh n hn (some (ρ.bv.getD l 0)) x _ mL ρ L _ w hv Gm Xf Gq) ?_;intro e a1 w1 hq;obtain⟨k',jK,m,hm,Gk,Kv,L2,g1,g2,g3,g4,g5⟩:=hq;cases e with
      | normal=>
       cases jK;cases m with
       | zero=>exact g5.elim
       | succ m=>
        simp only [run]at g5;split at g5
        case h_2=>exact g5.elim
        rename_i i2 r2 j2 UI;have UJ:=mR g3 UI;have X5:Kv.bv.getD l 0=ρ.bv.getD l 0:=((Env.Le.agree hw.lens g1).b l hlb).symm;rw [X5]at UJ;refine⟨_,run_beginRound UJ rfl,?_⟩;have Kt:=EF g3 UI .busy j2;rw [X5]at Kt;cases m with
        | zero=>exact g5.elim
        | succ m=>
        have Zu:ED Kv (.round l st.fn st.nt st.fr o.dst:: .ops all r::k) (some (ρ.bv.getD l 0)):=
         ⟨fun l r fn nt fr ps x y fd hm=>(gi.le g1).rf l r fn nt fr ps x y fd (by simpa using hm),⟨ρ,st.aS,hw.lens,g1,hlb,rfl⟩⟩
        refine wpIn_mono (yh (m+1) (by omega) (some (ρ.bv.getD l 0)) y _ _ Kv L2 a1 _ g5 Kt g4 Zu) ?_;have fin: ∀(j:Jump) (a3:Act) (w3:World),At P C aq Fs w0 (m+1) (.m9 l j st.fn st.nt st.fr o.dst:: .ops all r::k) Kv L2 a3 w3→
          ∃v w',(Instr.endRound (ρ.bv.getD l 0) j.code).run P w3= .ok v w'∧wpListIn (FW ro) 0 P all (QK P C aq Fs w0 (n+1) k ρ L) r (a.put o.dst v) w':=by
         intro j a3 w3 ⟨m3,hm3,Xg,Zv,L3,q1,q2,q3,q4,q5⟩;cases m3 with
         | zero=>exact q5.elim
         | succ m3=>
          simp only [run]at q5;split at q5
          case h_2=>exact q5.elim
          rename_i i3 r3 s3 j3 UK;split at q5
          case isFalse=>exact q5.elim
          rename_i af0;have Nv:=g1.trans q1;have UL:=mR q3 UK;have Zx:Zv.bv.getD l 0=ρ.bv.getD l 0:=((Env.Le.agree hw.lens Nv).b l hlb).symm;rw [Zx]at UL;refine⟨_,_,run_endRound j.code UL,?_⟩;have Ov:=EF q3 UK (if j= .none then .ready else .done) j;rw [Zx]at Ov;have eL:=gK.le hw.lens q3.lens Nv;have hw5:HW Fs w0 (fW {Xg with hp:=Xg.hp.set i3 (.mg l r3 (if j= .none then .ready else .done) j)} st.fn st.nt st.fr) Zv _:=⟨Ov.lens,cO eL hw.lX,Ov.gF,Ov.oO,Ov.kn,Ov.own,Ov.same,dz eL hw.mP⟩;have:=next (fW {Xg with hp:=Xg.hp.set i3 (.mg l r3 (if j= .none then .ready else .done) j)} st.fn st.nt st.fr) (.bool (.lit (decide (j= .none)))) (.bool j.code.isNone) Zv L3 _ (by omega) Nv
           (fun j hj=>(q2 j hj).trans (g2 j hj)) rfl rfl hw5 rfl (by cases j<;>rfl) q5
          cases j<;>exact this
        intro e3 a3 w3 hq3;obtain⟨k3',Rx,WT⟩:=hq3;cases e3 with
        | normal=>
         cases Rx;refine fin .none a3 w3 ?_;obtain⟨m3,hm3,Xg,Zv,L3,q1,q2,q3,q4,q5⟩:=WT;cases m3 with
         | zero=>exact q5.elim
         | succ m3=>exact⟨m3,by omega,Xg,Zv,L3,q1,q2,q3,q4,q5⟩
        | ret=>cases Rx;exact fin .ret a3 w3 WT
        | exit id=>cases Rx;exact fin (.exit id) a3 w3 WT
        | goto l=>cases Rx
        | panic l=>cases Rx
        | outgrown=>cases Rx
      | exit id=>cases jK
      | ret=>cases jK
      | goto l=>cases jK
      | panic l=>cases jK
      | outgrown=>cases jK
end
end Go.RX
