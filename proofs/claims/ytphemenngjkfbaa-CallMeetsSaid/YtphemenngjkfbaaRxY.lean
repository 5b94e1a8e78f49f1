/- Executor. -/
import Derived.Test.YtphemenngjkfbaaRxX
import Derived.RangeFuncNested
open Array renaming ext' → ael, getD_eq_getD_getElem? → ad3, getElem?_eq_some_iff → adS
open Bool renaming and_eq_true → ai
open Go.Result renaming andThen_ok → adR
open Go.Sem renaming run_bind → adV, run_pure → aeb
open List renaming all_eq_true → adI, getElem?_append_left → adO, getElem?_eq_getElem → ad9, getElem?_eq_some_iff → adJ, mem_cons_of_mem → adP, mem_cons_self → adN, mem_map → aeu, mem_or_eq_of_mem_set → aee
open Nat renaming blt_eq → adX
open Option renaming map_eq_some_iff → adM
open Option.some renaming injEq → adK
namespace Go.RX
def gk(P:Program)(C:Ctx):Prop:= ∀f az hp r (ρ:Env),CM C f az hp=some r→(∀b∈r.vcs,b.prop ρ)→
 aq P f (SV.bK ρ az) ((r.use.map fun i=>hp.getD i .emp).map (Ck.den ρ)) fun x hs=>x=r.val.val ρ∧hs=r.new.map (Ck.den ρ)
theorem gk.none{P:Program}{C:Ctx}(h:C.pure=fun _=>Option.none):gk P C:=by
 intro f az hp r ρ hp;simp [CM,h]at hp
def bb(P:Program)(FT:List (Nat×Func)):Prop:= ∀x∈FT,P.funcs[x.1]? =some x.2∧(x.2.name== "runtime.NumGoroutine")=false
section
variable {P:Program} {C:Ctx} {ao:Value→List HP→Prop} {Fs:List HP} {w0:World}
theorem wC{ρ:Env}(a b:List SV):SV.bK ρ (a++b)=SV.bK ρ a++SV.bK ρ b:=by
 induction a with
 | nil=>rfl
 | cons x r ih=>simp only [List.cons_append,SV.bK,ih]
theorem FH{ρ:Env}: ∀(l:List SV) (i:Nat),(SV.bK ρ l)[i]? =(l[i]?).map (SV.val ρ)
 | [],i=>by simp [SV.bK]
 | x::r,0=>by simp [SV.bK]
 | x::r,i+1=>by simp only [SV.bK,List.getElem?_cons_succ];exact FH r i
theorem BC{ρ:Env}: ∀(l:List SV) (n s:Nat) (v:SV),look (eo n l) s=some v→n≤s∧l[s - n]? =some v
 | [],n,s,v,h=>by cases h
 | x::r,n,s,v,h=>by
  unfold eo look at h;split at h
  ·rename_i hs;rw [beq_iff_eq]at hs;subst hs;cases h;exact⟨Nat.le_refl _,by simp⟩
  ·rename_i hs;obtain⟨h1,h2⟩:=BC (ρ:=ρ) r (n+1) s v h;refine⟨by omega,?_⟩;rw [show s - n=(s - (n+1))+1 by omega,List.getElem?_cons_succ];exact h2
theorem xe{c:cz}: ∀(l:List SV) (n:Nat),SV.pw c l=true→kW c (eo n l)=true
 | [],n,_=>rfl
 | x::r,n,h=>by
  simp only [SV.pw,ai]at h;simp only [eo,kW,List.all_cons,ai];exact⟨h.1,xe r (n+1) h.2⟩
theorem yI{ρ:Env}(az:List SV)(nt:Nat):HA (eo 0 az) ⟨nt,[]⟩ ρ {tmps:=(SV.bK ρ az).toArray++Array.replicate (nt - (SV.bK ρ az).toArray.size) undef,defers:=[]}:=by
 refine⟨rfl,by simp;omega,fun s v hs=>?_⟩;obtain⟨_,h2⟩:=BC (ρ:=ρ) az 0 s v hs;rw [Nat.sub_zero]at h2;have h3:(SV.bK ρ az)[s]? =some (v.val ρ):=by rw [FH,h2];rfl
 rw [ad3,Array.getElem?_append_left (by simpa using (adJ.1 h3).1)];simp [h3]
theorem OX{ρ:Env}{a:Act}{w:World}{fr:List (Nat×SV)}{nt:NT}(ha:HA fr nt ρ a){o:Oper}{f:Nat}{az:List SV}(h:zH (look fr) o=some (f,az))
  {fd:Func} (hf:P.funcs[f]? =some fd) (hn:(fd.name== "runtime.NumGoroutine")=false) {c:Code} (hb:fd.body=some c):
  (execOp a.eval o).run P w= .ok (.enter f (SV.bK ρ az).toArray) w∧∀c,o.op≠ .defer c:=by
 unfold zH at h;split at h
 ·rename_i fop args argTypes FM;split at h
  ·rename_i f' jB XG h1 h2;cases h;have e1:=eL ha.eval h1;have e2:=kg ha.eval _ _ h2;have e3:Array.map a.eval args=(SV.bK ρ XG).toArray:=ael (by rw [Array.toList_map,e2]);refine⟨?_,fun c hc=>by rw [FM]at hc;cases hc⟩;simp only [execOp,FM,resolve,e1,SV.val,Deferred.ofValue,adV,aeb,adR,invoke,callFunc,e3];have Yr: ¬fd.name= "runtime.NumGoroutine" :=by simpa using hn
   simp [hf,Yr,hb,wC]
  ·cases h
 ·cases h
theorem Q4{ρ:Env}{a:Act}{w:World}{fr:List (Nat×SV)}{nt:NT}(ha:HA fr nt ρ a){o:Oper}{f:Nat}{az:List SV}(h:zH (look fr) o=some (f,az)):
  (execOp a.eval o).run P w=(callFunc f (SV.bK ρ az).toArray).run P w∧∀c,o.op≠ .defer c:=by
 unfold zH at h;split at h
 ·rename_i fop args argTypes FM;split at h
  ·rename_i f' jB XG h1 h2;cases h;have e1:=eL ha.eval h1;have e2:=kg ha.eval _ _ h2;have e3:Array.map a.eval args=(SV.bK ρ XG).toArray:=ael (by rw [Array.toList_map,e2]);refine⟨?_,fun c hc=>by rw [FM]at hc;cases hc⟩;simp only [execOp,FM,resolve,e1,SV.val,Deferred.ofValue,adV,aeb,adR,invoke,e3,wC];simp
  ·cases h
 ·cases h
theorem Ji{ro:Option Nat}{n:Nat}{f:FuncId}{args:Array Value}{w:World}{R:Ending→World→Prop}(h:Calls P f args w R):CallsIn (FW ro) n P f args w R:=by
 have:CallsIn Fence.wide n P f args w R:=callsIn_wide.2 h;exact this
theorem OY{ro:Option Nat}{n:Nat}{f:FuncId}{args:Array Value}{w:World}{R:Ending→World→Prop}(h:CallsIn (FW none) n P f args w R):CallsIn (FW ro) n P f args w R:=h
theorem zU{fn:Func}{tmps:Array Value}{R:Ending→World→Prop}{u:FrameMode}(hu:u≠ .run){r:List Deferred}{i:Nat}: ∀{l:List Nat} {hs:List HP} {w:World},hs[i]? =some (kF l)→bd (hs++Fs) w→
  (∀w',bd (hs.set i HP.emp++Fs) w'→fQ w w'→LeavesInM (FW none) 0 P fn tmps R r u w')→LeavesInM (FW none) 0 P fn tmps R (l.map (fun b=>{target:= .collected b,args:= #[]})++r) u w
 | [],hs,w,hi,ho,hk=>by
  obtain⟨S,hS⟩:=ho;refine hk w ?_ (fQ.refl w);have dM:=hS.at_ i _ (by rw [adO (adJ.1 hi).1];exact hi);exact bd.step hS i _ _ hi rfl (fun _=>False) (Nat.le_refl _) (fun _ _ _=>rfl) (fun k hk=>hk) (fun k hk=>hk.elim)
 | b::l,hs,w,hi,ho,hk=>by
  obtain⟨S,hS⟩:=ho;have cK:=(adJ.1 hi).1;have dM:=hS.at_ i _ (by rw [adO cK];exact hi);obtain⟨⟨p1,p2,p3⟩,p4⟩:=dM;have jH:w.heap[b]? =some (.deferred (some [])):=p3 b adN;have hbn:=(List.nodup_cons.1 p2);refine⟨hu,.inl ⟨b,w.putObj b (.deferred none),rfl,run_takeDeferred jH,?_⟩⟩;have cE:bd (hs.set i (kF l)++Fs) (w.putObj b (.deferred none)):=by
   refine bd.step hS i _ _ hi rfl (fun k=>k∈l) (by simp [World.putObj]) (fun k hk hn=>?_) ⟨fun k=>Iff.rfl,hbn.2,fun k hk=>?_⟩ (fun k hk=> .inl ((p1 k).2 (adP _ hk)))
   ·exact World.putObj_heap_other (fun e=>hn ((p1 k).2 (by rw [e];exact adN)))
   ·rw [World.putObj_heap_other (fun e=>hbn.1 (by rw [←e];exact hk))];exact p3 k (adP _ hk)
  refine zU hu (l:=l) (hs:=hs.set i (kF l)) (by rw [List.getElem?_set_self cK]) cE fun w' LD yK=>?_
  rw [List.set_set]at LD;exact hk w' LD ((show fQ w (w.putObj b (.deferred none))from⟨rfl,rfl,rfl,by simp⟩).trans yK)
theorem qx{fn:Func}{tmps:Array Value}{R:Ending→World→Prop}{u:FrameMode}(hu:u≠ .run){ρ:Env}: ∀{ds:List MK} {hp jE:List Ck} {w:World},leave hp ds=some jE→bd (hp.map (Ck.den ρ)++Fs) w→
  (∀w',bd (jE.map (Ck.den ρ)++Fs) w'→fQ w w'→LeavesInM (FW none) 0 P fn tmps R [] u w')→LeavesInM (FW none) 0 P fn tmps R (marks ρ ds) u w
 | [],hp,jE,w,h,ho,hk=>by
  simp only [leave,adK]at h;subst h;exact hk w ho (fQ.refl w)
 | .many d::ds,hp,jE,w,h,ho,hk=>by
  unfold leave at h;split at h
  ·rename_i i hi;rw [List.findIdx?_eq_some_iff_getElem]at hi;obtain⟨cK,hd,_⟩:=hi;have Ah:hp[i]? =some (.rj d):=by
    cases hc:hp[i]with
    | rj b=>
     rw [hc]at hd;simp only [Ck.vu,beq_iff_eq]at hd;subst hd;rw [ad9 cK,hc]
    | _=>rw [hc]at hd;simp [Ck.vu]at hd
   have JX:(hp.map (Ck.den ρ))[i]? =some (kF (pG (ρ.bv.getD d 0))):=by rw [List.getElem?_map,Ah];rfl
   rw [show marks ρ (.many d::ds)=(pG (ρ.bv.getD d 0)).map (fun b=>{target:= .collected b,args:= #[]})++marks ρ ds by simp only [marks,List.flatMap_cons,MK.blocks,List.map_append]];refine zU hu JX ho fun w' LD yK=>?_
   have Xl:bd ((hp.set i .emp).map (Ck.den ρ)++Fs) w':=by rw [List.map_set];exact LD
   exact qx hu h Xl fun w2 h2 Z4=>hk w2 h2 (yK.trans Z4)
  ·cases h
 | .one d::ds,hp,jE,w,h,ho,hk=>by
  unfold leave at h;split at h
  ·rename_i i hi;rw [List.findIdx?_eq_some_iff_getElem]at hi;obtain⟨cK,hd,_⟩:=hi;have Ah:hp[i]? =some (.JT d):=by
    cases hc:hp[i]with
    | JT b=>
     rw [hc]at hd;simp only [Ck.Bz,beq_iff_eq]at hd;subst hd;rw [ad9 cK,hc]
    | _=>rw [hc]at hd;simp [Ck.Bz]at hd
   obtain⟨S,hS⟩:=ho;have JX:(hp.map (Ck.den ρ))[i]? =some (xO (ρ.bv.getD d 0)):=by rw [List.getElem?_map,Ah];rfl
   have dM:=hS.at_ i _ (by rw [adO (by simpa using cK)];exact JX);have jH:w.heap[ρ.bv.getD d 0]? =some (.deferred (some [])):=dM.1.2;have hbl:ρ.bv.getD d 0<w.heap.size:=(adS.1 jH).1;refine⟨hu,.inl ⟨ρ.bv.getD d 0,w.putObj (ρ.bv.getD d 0) (.deferred none),rfl,run_takeDeferred jH,?_⟩⟩;have cE:bd ((hp.set i .emp).map (Ck.den ρ)++Fs) (w.putObj (ρ.bv.getD d 0) (.deferred none)):=by
    rw [List.map_set];refine bd.step hS i _ _ JX rfl (fun _=>False) (by simp [World.putObj]) (fun k hk hn=>?_) (fun k hk=>hk) (fun k hk=>hk.elim);exact World.putObj_heap_other (fun e=>hn ((dM.1.1 k).2 e))
   refine qx hu h cE fun w' LD yK=>hk w' LD ((show fQ w (w.putObj (ρ.bv.getD d 0) (.deferred none))from⟨rfl,rfl,rfl,by simp⟩).trans yK)
  ·cases h
theorem zV{c:cz}: ∀{ds:List MK} {hp jE:List Ck},leave hp ds=some jE→hp.all (Ck.sc c)=true→jE.all (Ck.sc c)=true
 | [],hp,jE,h,hs=>by simp only [leave,adK]at h;subst h;exact hs
 | .many d::ds,hp,jE,h,hs=>by
  unfold leave at h;split at h
  ·refine zV h (adI.2 fun x hx=>?_);rcases aee hx with hx | rfl
   ·exact adI.1 hs x hx
   ·rfl
  ·cases h
 | .one d::ds,hp,jE,h,hs=>by
  unfold leave at h;split at h
  ·refine zV h (adI.2 fun x hx=>?_);rcases aee hx with hx | rfl
   ·exact adI.1 hs x hx
   ·rfl
  ·cases h
theorem nu{fd:Func}{R:Ending→World→Prop}{st df:St}{ρ:Env}{a:Act}{w:World}(h:mO st=some df)(hw:HW Fs w0 st ρ w)(ha:HA st.fr st.nt ρ a)
  (hk: ∀w',HW Fs w0 df ρ w'→∃v,(results fd a.tmps).run P w'= .ok v w'∧R (.returned v) w'):LeavesInM (FW none) 0 P fd a.tmps R a.defers .returning w:=by
 unfold mO at h;rw [adM]at h;obtain⟨jE,hl,rfl⟩:=h;rw [ha.defers];refine qx (by simp) hl hw.own fun w' ho yK=>?_
 obtain⟨v,h1,h2⟩:=hk w' ⟨hw.lens,hw.kz,zV hl hw.fg,hw.nE,hw.kn,ho,hw.same.trans yK,hw.lu⟩;exact⟨v,h1,h2⟩
theorem FI(hT:bw P C.T=true){n:Nat}(vW:qd P C ao Fs w0 n){c:Code}{fd:Func}{f:Nat}(hf:P.funcs[f]? =some fd)(hb:fd.body=some c){k:List KI}{st:St}{ρ:Env}{L:Nat→LC}{w:World}{az:List SV}{fn:Nat}{nt:NT}{fr:List (Nat×SV)}{d:Option Nat}
  (hv:VC P ao (run C n (.code c:: .call fn nt fr d fd::k) (fv st f ⟨fd.ntmps,[]⟩ (eo 0 az))) ρ L) (iM:SV.pw st.aQ az=true) (hw:HW Fs w0 st ρ w) (hrf: ∀l r fn nt fr ps x y fd,KI.rf l r fn nt fr ps x y fd∈k→∃vX c0,gg vX c0∧Env.Le vX ρ∧kW c0 fr=true∧r<c0.r∧(vX.lr.getD r g_).params=ps∧(vX.lr.getD r g_).assign=x∧(vX.lr.getD r g_).body=y∧HA fr ⟨nt.n,[]⟩ vX {tmps:=(vX.lr.getD r g_).tmps,defers:=[]}) {R:Ending→World→Prop}
  (hR: ∀v w' m df bC L',m<n→Env.Le ρ bC→(∀j,j<nl k→L' j=L j)→HW Fs w0 df bC w'→v.sc df.aQ=true→qc (fv df fn nt fr) d=true→
   VC P ao (run C m k ((fv df fn nt fr).put d v)) bC L'→R (.returned (v.val bC)) w'):
  CallsIn (FW none) 0 P f (SV.bK ρ az).toArray w R:=by
 refine callsIn_of_wp_marks hf hb trivial ?_ rfl;have Vi:HW Fs w0 (fv st f ⟨fd.ntmps,[]⟩ (eo 0 az)) ρ w:=⟨hw.lens,xe az 0 iM,hw.fg,hw.nE,hw.kn,hw.own,hw.same,rfl⟩;refine wpIn_mono (vW none c _ _ ρ L _ w hv Vi (yI az fd.ntmps) ⟨fun l r fn nt fr ps x y fd hm=>hrf l r fn nt fr ps x y fd (by simpa using hm),rfl⟩) ?_;have key: ∀a' w',At P C ao Fs w0 n (.call fn nt fr d fd::k) ρ L a' w'→LeavesInM (FW none) 0 P fd a'.tmps R a'.defers .returning w':=by
  intro a' w' ⟨m,hm,df,bC,L',h1,h2,h3,h4,h5⟩;cases m with
  | zero=>exact h5.elim
  | succ m=>
   simp only [run]at h5;split at h5
   case h_2=>exact h5.elim
   rename_i D7 zY;have MC:D7.fr=df.fr∧D7.nt=df.nt∧D7.aQ=df.aQ:=by
    unfold mO at zY;rw [adM]at zY;obtain⟨jE,_,rfl⟩:=zY;exact⟨rfl,rfl,rfl⟩
   split at h5
   ·rename_i v hv;split at h5
    ·rename_i hc;simp only [ai]at hc;refine nu zY h3 h4 fun w2 D9=>?_
     refine⟨_,oN hT D9 (nt:=df.nt) (by rw [MC.1];exact h4) hv,hR v w2 m D7 bC L' (by omega) h1 h2 D9 hc.2 hc.1 h5⟩
    ·exact h5.elim
   ·exact h5.elim
 intro e a' w' hq;obtain⟨k',hk,dM⟩:=hq;cases e with
 | normal=>cases hk;exact key a' w' dM
 | ret=>cases hk;exact key a' w' dM
 | exit id=>cases hk
 | goto l=>cases hk
 | panic l=>cases hk
 | outgrown=>cases hk
theorem tM{st:St}{d:Option Nat}(h:qc st d=true): ∀x,d=some x→x<st.nt.n:=by
 intro x hx;subst hx;simpa [qc,adX] using h
theorem sT{hp:List Ck}{l i r:Nat}{s:RS}{j:Jump}(h:recAt hp l=some (i,r,s,j)):hp[i]? =some (.kI l r s j):=by
 unfold recAt at h;split at h
 ·rename_i q hq;split at h
  ·rename_i l' r' s' j' hg;cases h;rw [List.findIdx?_eq_some_iff_getElem]at hq;obtain⟨cK,hd,_⟩:=hq;rw [ad9 cK,adK]at hg;rw [hg]at hd;simp only [Ck.isRec,beq_iff_eq]at hd;subst hd;rw [ad9 cK,hg]
  ·cases h
 ·cases h
theorem uo{l:Nat}: ∀{k:List KI} {r fn:Nat} {nt:NT} {fr:List (Nat×SV)} {ps:Array Tmp} {x y:Code},rb l k=some (r,fn,nt,fr,ps,x,y)→∃fd,KI.rf l r fn nt fr ps x y fd∈k
 | [],_,_,_,_,_,_,_,h=>by cases h
 | i::k,r,fn,nt,fr,ps,x,y,h=>by
  have go:rb l k=some (r,fn,nt,fr,ps,x,y)→∃fd,KI.rf l r fn nt fr ps x y fd∈i::k:=fun h'=>by
   obtain⟨fd,hm⟩:=uo h';exact⟨fd,adP _ hm⟩
  cases i with
  | rf l' r' fn' xK FQ Xp x' y' Vm=>
   unfold rb at h;split at h
   ·rename_i hl;rw [beq_iff_eq]at hl;cases h;subst hl;exact⟨Vm,adN⟩
   ·exact go h
  | _=>exact go h
theorem lv{st:St}{ρ:Env}{w:World}(hw:HW Fs w0 st ρ w){l i r:Nat}{s:RS}{j:Jump}(h:recAt st.hp l=some (i,r,s,j)):
  w.heap[ρ.bv.getD l 0]? =some (.loop {ρ.lr.getD r g_ with state:=s.st,pending:=j.code}):=by
 obtain⟨S,hS⟩:=hw.own;have hi:=sT h;have cK:=(adJ.1 hi).1;exact(hS.at_ i ((Ck.kI l r s j).den ρ) (by rw [adO (by simpa using cK),List.getElem?_map,hi];rfl)).1.2
theorem B0{st:St}{ρ:Env}{w:World}(hw:HW Fs w0 st ρ w){l i r:Nat}{s:RS}{j:Jump}(h:recAt st.hp l=some (i,r,s,j))(s':RS)(j':Jump):
  HW Fs w0 {st with hp:=st.hp.set i (.kI l r s' j')} ρ (w.putObj (ρ.bv.getD l 0) (.loop {ρ.lr.getD r g_ with state:=s'.st,pending:=j'.code})):=by
 have hi:=sT h;have hb:=lv hw h;have hbl:ρ.bv.getD l 0<w.heap.size:=(adS.1 hb).1;have cK:=(adJ.1 hi).1;obtain⟨S,hS⟩:=hw.own;have JX:(st.hp.map (Ck.den ρ))[i]? =some ((Ck.kI l r s j).den ρ):=by rw [List.getElem?_map,hi];rfl
 have dM:=hS.at_ i _ (by rw [adO (by simpa using cK)];exact JX);have iM:=adI.1 hw.fg _ (List.mem_of_getElem? hi);refine⟨hw.lens,hw.kz,adI.2 fun q hq=>?_,hw.nE,hw.kn,?_,hw.same.trans ⟨rfl,rfl,rfl,by simp⟩,hw.lu⟩
 ·rcases aee hq with hq | rfl
  ·exact adI.1 hw.fg q hq
  ·exact iM
 ·show bd ((st.hp.set i (.kI l r s' j')).map (Ck.den ρ)++Fs) _;rw [List.map_set];refine bd.step hS i _ _ JX rfl (S i) (by simp) (fun k hk hn=>World.putObj_heap_other (fun e=>hn ((dM.1.1 k).2 e))) ⟨dM.1.1,?_⟩ (fun k hk=> .inl hk);exact World.putObj_heap_same hbl
theorem uq{ρ:Env}: ∀{l:List (Nat×SV)} {st ld:St} {a:Act} {w:World},kK st l=some ld→HW Fs w0 st ρ w→HA st.fr st.nt ρ a→
  HW Fs w0 ld ρ w∧HA ld.fr ld.nt ρ (l.foldl (fun a x=>a.put (some x.1) (x.2.val ρ)) a)∧ld.aQ=st.aQ∧ld.hp=st.hp
 | [],st,ld,a,w,h,hw,ha=>by
  simp only [kK,adK]at h;subst h;exact⟨hw,ha,rfl,rfl⟩
 | (d,v)::r,st,ld,a,w,h,hw,ha=>by
  unfold kK at h;split at h
  ·rename_i hc;rw [ai]at hc;have tJ:=ha.put (d:=some d) (v:=v) (u:=v.val ρ) (tM hc.1) rfl st rfl;have e:=dU st (some d) v;obtain⟨h1,h2,h3,h4⟩:=uq h (hw.put hc.2) (by rw [e.2.2.2.1];exact tJ);exact⟨h1,h2,h3.trans e.2.1,h4.trans e.1⟩
  ·cases h
theorem Lr{ρ:Env}{a:Act}{w:World}{fr:List (Nat×SV)}{nt:NT}(ha:HA fr nt ρ a){o:Oper}{l:Nat}{az:List SV}(h:OI (look fr) o=some (l,az)){r:Loop}(hb:w.heap[ρ.bv.getD l 0]? =some (.loop r))
  (hs:az.length=r.params.size):
  (execOp a.eval o).run P w= .ok (.round (ρ.bv.getD l 0) r.fn ((r.params.zip (SV.bK ρ az).toArray).foldl (fun tmps (t,a)=>tmps.setIfInBounds t a) r.tmps) r.assign r.body) w∧∀c,o.op≠ .defer c:=by
 unfold OI at h;split at h
 ·rename_i fop args argTypes FM;split at h
  ·rename_i l' XG h1 h2;cases h;have e1:=eL ha.eval h1;have e2:=kg ha.eval _ _ h2;have e3:Array.map a.eval args=(SV.bK ρ az).toArray:=ael (by rw [Array.toList_map,e2]);refine⟨?_,fun c hc=>by rw [FM]at hc;cases hc⟩;have hlen: ∀l:List SV,(SV.bK ρ l).length=l.length:=by
    intro l;induction l with
    | nil=>rfl
    | cons x r ih=>simp [SV.bK,ih]
   have hy:=run_yield (P:=P) (args:=(SV.bK ρ az).toArray) hb (by simp [hlen,hs]);simp only [execOp,FM,resolve,e1,SV.val,Deferred.ofValue,adV,aeb,adR,invoke,e3,Array.empty_append];exact hy
  ·cases h
 ·cases h
theorem HV{ρ:Env}(ps:Array Tmp)(az:List SV)(t:Array Value):
  (ps.toList.zip az).foldl (fun a x=>a.put (some x.1) (x.2.val ρ)) ({tmps:=t,defers:=[]}:Act)=
   {tmps:=(ps.zip (SV.bK ρ az).toArray).foldl (fun tmps (t,a)=>tmps.setIfInBounds t a) t,defers:=[]}:=by
 rw [←Array.foldl_toList,Array.toList_zip];generalize ps.toList=l
 induction l generalizing az t with
 | nil=>rfl
 | cons d l ih=>
  cases az with
  | nil=>rfl
  | cons v az=>
   simp only [List.zip_cons_cons,List.foldl_cons,SV.bK];exact ih az _
theorem Ee(hT:bw P C.T=true)(Ba:bb P C.FT)(Ec:gk P C){n:Nat}(vW: ∀m,m<n→qd P C ao Fs w0 m)(LF: ∀m,m<n→sq P C ao Fs w0 m):sq P C ao Fs w0 n:=by
 intro ro all r k st ρ L a w hv hw ha fG;cases n with
 | zero=>exact hv.elim
 | succ n=>
  have hn:n<n+1:=Nat.lt_succ_self n;have up: ∀{e:Exit} {a:Act} {w:World} {bC:Env} {L':Nat→LC},Env.Le ρ bC→(∀j,j<nl k→L' j=L j)→QK P C ao Fs w0 n k bC L' e a w→QK P C ao Fs w0 (n+1) k ρ L e a w:=fun h1 h2 hq=>hq.mono (Nat.le_succ n) h1 h2
  cases r with
  | nil=>
   simp only [run]at hv;exact QK.here hn rfl hv hw ha
  | cons o r=>
   simp only [run]at hv;split at hv
   case isFalse=>exact hv.elim
   rename_i wP;have hd:=tM wP;have Y1:=hd;have next: ∀{m:Nat} (df:St) (v:SV) (u:Value) (bC:Env) (L':Nat→LC) (w':World),m≤n→Env.Le ρ bC→(∀j,j<nl k→L' j=L j)→df.fr=st.fr→df.nt=st.nt→HW Fs w0 df bC w'→v.sc df.aQ=true→u=v.val bC→
     VC P ao (run C m (.ops all r::k) (df.put o.dst v)) bC L'→wpListIn (FW ro) 0 P all (QK P C ao Fs w0 (n+1) k ρ L) r (a.put o.dst u) w':=by
    intro m df v u bC L' w' hm h1 h2 Re LB h3 h4 h5 h6;have ey:=Env.Le.agree hw.lens h1;have tJ:=(ha.more hw.kz hw.lu ey).put (d:=o.dst) (v:=v) (u:=u) hd h5 df Re;have:=LF m (by omega) ro all r k _ bC L' (a.put o.dst u) w' h6 (h3.put h4) (by rw [(dU df o.dst v).2.2.2.1,LB];exact tJ) (fG.le h1);exact eY (fun e a w hq=>hq.mono (by omega) h1 h2) this
   have zW: ∀{m:Nat} (v:SV) (u:Value),m≤n→v.sc st.aQ=true→u=v.val ρ→VC P ao (run C m (.ops all r::k) (st.put o.dst v)) ρ L→wpListIn (FW ro) 0 P all (QK P C ao Fs w0 (n+1) k ρ L) r (a.put o.dst u) w:=
    fun v u hm h1 h2 h3=>next st v u ρ L w hm (Env.Le.refl _) (fun _ _=>rfl) rfl rfl hw h1 h2 h3
   unfold wpListIn;split at hv
   ·exact hv.elim
   ·
    rename_i hg;have lQ:=jY ha hw.kn hg;simp only [ns,BE.den]at lQ;rw [if_neg (by rw [lQ];simp)];exact⟨fun _ _=>trivial,zW .undef undef (Nat.le_refl _) rfl rfl hv⟩
   ·
    rename_i c dZ hg;have lQ:=jY ha hw.kn hg;simp only [ns]at lQ;split at hv
    case isFalse=>exact hv.elim
    rename_i m_;have fork:VC P ao (.fork c (run C n (.ops all ({o with guard:=none}::r)::k) (st.HL c)) (run C n (.ops all r::k) ((st.ru c).put o.dst .undef))) ρ L→
      (if Region.wanted o (yielded all a.tmps)=true then o.wpIn (FW ro) 0 P a w (wpListIn (FW ro) 0 P all (QK P C ao Fs w0 (n+1) k ρ L) r) (QK P C ao Fs w0 (n+1) k ρ L)
       else(∀f,o.about P w a.eval=some f→(FW ro).fn f)∧wpListIn (FW ro) 0 P all (QK P C ao Fs w0 (n+1) k ρ L) r (a.put o.dst undef) w):=by
     intro hf;simp only [VC,aU]at hf;rw [lQ];cases hd:c.den ρ with
     | true=>
      rw [if_pos rfl];have w_:HW Fs w0 (st.HL c) ρ w:=by
       have:=hw.know ((BE.bY ρ c).1 hd) m_;refine⟨this.lens,adI.2 fun x hx=>?_,this.fg,this.nE,this.kn,this.own,this.same,this.lu⟩;obtain⟨y,hy,rfl⟩:=aeu.1 hx;exact SV.T4 (adI.1 hw.kz y hy)
      have h1:=LF n hn ro all ({o with guard:=none}::r) k (st.HL c) ρ L a w (hf.1 ((BE.bY ρ c).1 hd)) w_ (HA.HL ha hd) fG;unfold wpListIn at h1;rw [if_pos (by simp [Region.wanted])]at h1;exact AL (Oper.yC (fun a w h=>eY (fun e a w hq=>up (Env.Le.refl _) (fun _ _=>rfl) hq) h) (fun e a w hq=>up (Env.Le.refl _) (fun _ _=>rfl) hq) h1)
     | false=>
      rw [if_neg (by simp)];have D9:HW Fs w0 (st.ru c) ρ w:=by
       have:=hw.know (b:=iE c) (by rw [←BE.bY,dh,hd];rfl) (CV m_);refine⟨this.lens,adI.2 fun x hx=>?_,this.fg,this.nE,this.kn,this.own,this.same,this.lu⟩;obtain⟨y,hy,rfl⟩:=aeu.1 hx;exact SV.Q3 (adI.1 hw.kz y hy)
      have Uq:=(HA.ru ha hd).put (d:=o.dst) (v:= .undef) (u:=undef) Y1 rfl (st.ru c) rfl;have:=LF n hn ro all r k _ ρ L (a.put o.dst undef) w (hf.2 fun h=>by rw [←BE.bY,hd]at h;cases h) (D9.put rfl) (by rw [(dU (st.ru c) o.dst .undef).2.2.2.1];exact Uq) fG;exact⟨fun _ _=>trivial,eY (fun e a w hq=>hq.mono (by omega) (Env.Le.refl _) fun _ _=>rfl) this⟩
    split at hv
    ·rename_i res D6;obtain⟨D4,JY⟩:=kX D6;split at hv
     ·rename_i PT;obtain⟨cb,hv⟩:=gW hw.kn hv;simp only [ns]at cb;rw [lQ];have iM:=JY;simp only [gU.sc,ai,PT,Am.grow]at iM;cases hd:c.den ρ with
      | true=>
       rw [if_pos rfl];obtain⟨S,hS⟩:=hw.own;have hD:=qb (P:=P) hT (Env.ok ρ) (ha.uT hw.kn (g:=some c) hd) D4 (yH S hS _) (cb hd) hw.lens.b;unfold sV at hD;rw [PT]at hD;refine mN (uU D4) (.inl hD) ?_;refine zW (.opt c res.val) _ (Nat.le_refl _) ?_ ?_ hv
       ·simp only [SV.sc,ai];exact⟨m_,iM.1.1⟩
       ·simp only [SV.val,hd,if_true]
      | false=>
       rw [if_neg (by simp)];refine⟨fun _ _=>trivial,zW (.opt c res.val) undef (Nat.le_refl _) ?_ ?_ hv⟩
       ·simp only [SV.sc,ai];exact⟨m_,iM.1.1⟩
       ·simp [SV.val,hd]
     ·exact fork hv
    ·exact fork hv
   ·
    rename_i hg;have lQ:=jY ha hw.kn hg;simp only [ns]at lQ;rw [if_pos lQ];split at hv
    ·rename_i res D6;obtain⟨D4,JY⟩:=kX D6;obtain⟨cb,hv⟩:=gW hw.kn hv;have cb:=cb rfl;obtain⟨S,hS⟩:=hw.own;have hD:=qb (P:=P) hT (Env.ok ρ) (ha.uT hw.kn (g:=none) rfl) D4 (yH S hS _) cb hw.lens.b;have ri:VC P ao (We res.gJ (run C n (.ops all r::k) (({db st res.gJ with known:=more res.vcs st.known}:St).put o.dst res.val))) ρ L:=by
      cases he:res.gJ<;>rw [he]at hv<;>exact hv
     obtain⟨u,w',bC,hZ,hle,Vi,hu,Z5,FK⟩:=OR hw hS hD JY cb ri;refine mN (uU D4) hZ ?_;obtain⟨e1,e2,e3,e4,e5⟩:=AJ st res.gJ;exact next {db st res.gJ with known:=more res.vcs st.known} res.val u bC L w' (Nat.le_refl _) hle (fun _ _=>rfl) e1 e2 Vi (by rw [show({db st res.gJ with known:=more res.vcs st.known}:St).aQ=(db st res.gJ).aQ from rfl,e5];exact Z5) hu FK
    ·split at hv
     ·rename_i f az qe;split at hv
      ·exact hv.elim
      ·rename_i fd yJ;have GD:=List.mem_of_find?_eq_some yJ;have JC:=List.find?_some yJ;simp only [beq_iff_eq]at JC;obtain⟨hf,Ea⟩:=Ba _ GD;simp only at hf Ea;rw [JC]at hf;split at hv
       ·split at hv
        case h_2=>exact hv.elim
        rename_i ca XU;split at hv
        case isFalse=>exact hv.elim
        rename_i iM;simp only [ai,decide_eq_true_eq]at iM;obtain⟨⟨⟨je,tL⟩,jZ⟩,C3⟩:=iM;have cK: ∀i∈ca.use az st.hp,i<st.hp.length:=fun i hi=>by simpa [adX] using adI.1 jZ i hi
        simp only [VC]at hv;obtain⟨post,zX,OZ⟩:=hv;have cE:=bd.tF (acc:=[]) (use:=ca.use az st.hp) (by simpa using hw.own) C3 (by simpa using cK);have HU:((ca.use az st.hp).map fun i=>st.hp.getD i .emp).map (Ck.den ρ)=(ca.use az st.hp).map (fun i=>(st.hp.map (Ck.den ρ)).getD i HP.emp):=by
         rw [List.map_map];refine List.map_congr_left fun i hi=>?_
         have:=cK i hi;simp [this]
        rw [List.nil_append,←HU]at cE;obtain⟨v,hs,w',hR,hp,zT,jq⟩:=zX w _ cE;obtain⟨hZ,fY⟩:=Q4 (P:=P) (w:=w) ha qe;have hx:=OZ v hs hp;rw [jQ]at hx;obtain⟨e2,sb,rfl,rfl,FK⟩:=hx;have hle:=Env.gi ρ e2;have ey:=Env.Le.agree hw.lens hle;refine mN fY (.inl (hZ.trans hR)) ?_;refine next {st with hp:=fq st.hp (ca.use az st.hp) (ca.new st.aQ ((ca.use az st.hp).map fun i=>st.hp.getD i .emp)),aQ:=st.aQ.add ca.inc} (q9 ca az st.hp st.aQ) _ (ρ.ext e2) L w' (Nat.le_refl _) hle (fun _ _=>rfl) rfl rfl ?_ je rfl FK;refine⟨hw.lens.ext sb,cD (cz.jS _ _) hw.kz,?_,eO (cz.jS _ _) hw.nE,fun b hb=>?_,?_,hw.same.trans jq,c_ (cz.jS _ _) hw.lu⟩
        ·exact lB _ _ rfl _ _ _ (im (cz.jS _ _) hw.fg) tL
        ·exact(BE.gn ey (adI.1 hw.nE b hb)).1 (hw.kn b hb)
        ·have h1:=bd.kK (use:=ca.use az st.hp) zT (fun i hi=>by rw [kV];simpa using cK i hi) fun _ _=> .inr trivial
         rw [←iO _ _ _ C3,jP ey hw.fg]at h1;simp only [fq];rw [lq];exact h1
       ·rename_i c hb;obtain⟨hZ,fY⟩:=OX (P:=P) (w:=w) ha qe hf Ea hb;refine⟨fun _ _=>trivial,?_⟩;rw [Oper.semAt_eq _ _ _ fY,hZ,Oper.uponIn_enter];refine⟨fun h=>(by cases h),?_⟩;split at hv
        ·rename_i r0 Z6;split at hv
         case isFalse=>exact hv.elim
         rename_i iM;simp only [ai,decide_eq_true_eq]at iM;obtain⟨⟨⟨je,tL⟩,jZ⟩,C3⟩:=iM;obtain⟨cb,hv⟩:=gW hw.kn hv;have cK: ∀i∈r0.use,i<st.hp.length:=fun i hi=>by simpa [adX] using adI.1 jZ i hi
         have zX:=Ec f az st.hp r0 ρ Z6 (cb rfl);have cE:=bd.tF (acc:=[]) (use:=r0.use) (by simpa using hw.own) C3 (by simpa using cK);have HU:(r0.use.map fun i=>st.hp.getD i .emp).map (Ck.den ρ)=r0.use.map (fun i=>(st.hp.map (Ck.den ρ)).getD i HP.emp):=by
          rw [List.map_map];refine List.map_congr_left fun i hi=>?_
          have:=cK i hi;simp [this]
         rw [List.nil_append,←HU]at cE;refine Ji ?_;have hc:=zX w _ cE;intro cs;obtain⟨e,w',FQ,hR,O0,XF,HX⟩:=hc cs;refine⟨e,w',FQ,?_,O0,XF,HX⟩;obtain⟨x,hs,rfl,⟨hx,rfl⟩,zT,jq⟩:=hR;subst hx;refine next {st with hp:=fq st.hp r0.use r0.new} r0.val _ ρ L w' (Nat.le_refl _) (Env.Le.refl _) (fun _ _=>rfl) rfl rfl ⟨hw.lens,hw.kz,?_,hw.nE,hw.kn,?_,hw.same.trans jq,hw.lu⟩ je rfl hv
         ·exact lB _ _ rfl _ _ _ hw.fg tL
         ·have h1:=bd.kK (use:=r0.use) zT (fun i hi=>by rw [kV];simpa using cK i hi) fun _ _=> .inr trivial
          rw [←iO _ _ _ C3]at h1;simp only [fq];rw [lq];exact h1
        split at hv
        ·rename_i ca XU;split at hv
         case isFalse=>exact hv.elim
         rename_i iM;simp only [ai,decide_eq_true_eq]at iM;obtain⟨⟨⟨je,tL⟩,jZ⟩,C3⟩:=iM;have cK: ∀i∈ca.use az st.hp,i<st.hp.length:=fun i hi=>by simpa [adX] using adI.1 jZ i hi
         simp only [VC]at hv;obtain⟨post,zX,OZ⟩:=hv;have cE:=bd.tF (acc:=[]) (use:=ca.use az st.hp) (by simpa using hw.own) C3 (by simpa using cK);have HU:((ca.use az st.hp).map fun i=>st.hp.getD i .emp).map (Ck.den ρ)=(ca.use az st.hp).map (fun i=>(st.hp.map (Ck.den ρ)).getD i HP.emp):=by
          rw [List.map_map];refine List.map_congr_left fun i hi=>?_
          have:=cK i hi;simp [this]
         rw [List.nil_append,←HU]at cE;refine Ji ?_;have hc:=zX w _ cE;intro cs;obtain⟨e,w',FQ,hR,O0,XF,HX⟩:=hc cs;refine⟨e,w',FQ,?_,O0,XF,HX⟩;obtain⟨v,hs,rfl,hp,zT,jq⟩:=hR;have hx:=OZ v hs hp;rw [jQ]at hx;obtain⟨e2,sb,rfl,rfl,FK⟩:=hx;have hle:=Env.gi ρ e2;have ey:=Env.Le.agree hw.lens hle;refine next {st with hp:=fq st.hp (ca.use az st.hp) (ca.new st.aQ ((ca.use az st.hp).map fun i=>st.hp.getD i .emp)),aQ:=st.aQ.add ca.inc} (q9 ca az st.hp st.aQ) _ (ρ.ext e2) L w' (Nat.le_refl _) hle (fun _ _=>rfl) rfl rfl ?_ je rfl FK;refine⟨hw.lens.ext sb,cD (cz.jS _ _) hw.kz,?_,eO (cz.jS _ _) hw.nE,fun b hb=>?_,?_,hw.same.trans jq,c_ (cz.jS _ _) hw.lu⟩
         ·exact lB _ _ rfl _ _ _ (im (cz.jS _ _) hw.fg) tL
         ·exact(BE.gn ey (adI.1 hw.nE b hb)).1 (hw.kn b hb)
         ·have h1:=bd.kK (use:=ca.use az st.hp) zT (fun i hi=>by rw [kV];simpa using cK i hi) fun _ _=> .inr trivial
          rw [←iO _ _ _ C3,jP ey hw.fg]at h1;simp only [fq];rw [lq];exact h1
        ·split at hv
         case isFalse=>exact hv.elim
         rename_i iM;refine OY (FI hT (vW n hn) hf hb hv iM hw (fun l r fn nt fr ps x y fd hm=>fG.rf l r fn nt fr ps x y fd (by simpa using hm)) ?_);intro v w' m df bC L' hm h1 h2 h3 h4 h5 h6;have dZ:=gg.le hw.lens h3.lens h1;have Im:HW Fs w0 (fv df st.fn st.nt st.fr) bC w':=⟨h3.lens,cD dZ hw.kz,h3.fg,h3.nE,h3.kn,h3.own,h3.same,c_ dZ hw.lu⟩;exact next (fv df st.fn st.nt st.fr) v _ bC L' w' (Nat.le_of_lt hm) h1 h2 rfl rfl Im h4 rfl h6
     ·split at hv
      case h_2=>exact hv.elim
      rename_i l az Uf;split at hv
      case h_2=>exact hv.elim
      rename_i rr fn nt fr ps x y i' r' s' j' yJ GG;split at hv
      case isFalse=>exact hv.elim
      rename_i hc;rw [ai,decide_eq_true_eq,beq_iff_eq]at hc;obtain⟨rfl,hlen⟩:=hc;split at hv
      case h_2=>exact hv.elim
      rename_i ld pR;obtain⟨fd,GD⟩:=uo yJ;obtain⟨vX,c0,k1,k2,k3,k4,k5,k6,k7,k8⟩:=fG.rf l rr fn nt fr ps x y fd GD;have Wi:=Env.Le.agree k1 k2;have hlr:vX.lr.getD rr g_=ρ.lr.getD rr g_:=Wi.r _ k4;rw [hlr]at k5 k6 k7 k8;have jH:=lv hw GG;obtain⟨hZ,fY⟩:=Lr (P:=P) ha Uf jH (by rw [hlen,←k5]);refine⟨fun _ _=>trivial,?_⟩;rw [Oper.semAt_eq _ _ _ fY,hZ,Oper.uponIn_round];refine⟨fun h=>(by cases h),?_⟩;refine roundIn_of_wpIn trivial ?_;simp only [k5,k6,k7];have w_:HW Fs w0 (fv st fn ⟨nt.n,[]⟩ fr) ρ w:=⟨hw.lens,cD (gg.le k1 hw.lens k2) k3,hw.fg,hw.nE,hw.kn,hw.own,hw.same,rfl⟩;have GH:HA fr ⟨nt.n,[]⟩ ρ {tmps:=(ρ.lr.getD rr g_).tmps,defers:=[]}:=k8.more k3 rfl Wi;obtain⟨D9,Uq,abg,_⟩:=uq pR w_ GH;rw [HV]at Uq;have JR:FW ro=FW ro:=rfl;have XH:l<st.aQ.b:=by
       have:=adI.1 hw.fg _ (List.mem_of_getElem? (sT GG));simp only [Ck.sc,ai,adX]at this;exact this.1
      have Eb:BY ρ (.begin l:: .code y:: .round l st.fn st.nt st.fr o.dst:: .ops all r::k) (some (ρ.bv.getD l 0)):=
       ⟨fun l r fn nt fr ps x y fd hm=>fG.rf l r fn nt fr ps x y fd (by simpa using hm),⟨ρ,st.aQ,hw.lens,Env.Le.refl _,XH,rfl⟩⟩
      refine wpIn_mono (vW n hn (some (ρ.bv.getD l 0)) x _ ld ρ L _ w hv D9 Uq Eb) ?_;intro e a1 w1 hq;obtain⟨k',py,m,hm,D7,Ip,L2,g1,g2,g3,g4,g5⟩:=hq;cases e with
      | normal=>
       cases py;cases m with
       | zero=>exact g5.elim
       | succ m=>
        simp only [run]at g5;split at g5
        case h_2=>exact g5.elim
        rename_i i2 r2 j2 RO;have RP:=lv g3 RO;have Vk:Ip.bv.getD l 0=ρ.bv.getD l 0:=((Env.Le.agree hw.lens g1).b l XH).symm;rw [Vk]at RP;refine⟨_,run_beginRound RP rfl,?_⟩;have Im:=B0 g3 RO .busy j2;rw [Vk]at Im;cases m with
        | zero=>exact g5.elim
        | succ m=>
        have Wj:BY Ip (.round l st.fn st.nt st.fr o.dst:: .ops all r::k) (some (ρ.bv.getD l 0)):=
         ⟨fun l r fn nt fr ps x y fd hm=>(fG.le g1).rf l r fn nt fr ps x y fd (by simpa using hm),⟨ρ,st.aQ,hw.lens,g1,XH,rfl⟩⟩
        refine wpIn_mono (vW (m+1) (by omega) (some (ρ.bv.getD l 0)) y _ _ Ip L2 a1 _ g5 Im g4 Wj) ?_;have fin: ∀(j:Jump) (a3:Act) (w3:World),At P C ao Fs w0 (m+1) (.lO l j st.fn st.nt st.fr o.dst:: .ops all r::k) Ip L2 a3 w3→
          ∃v w',(Instr.endRound (ρ.bv.getD l 0) j.code).run P w3= .ok v w'∧wpListIn (FW ro) 0 P all (QK P C ao Fs w0 (n+1) k ρ L) r (a.put o.dst v) w':=by
         intro j a3 w3 ⟨m3,Yd,Ur,Wk,L3,q1,q2,q3,q4,q5⟩;cases m3 with
         | zero=>exact q5.elim
         | succ m3=>
          simp only [run]at q5;split at q5
          case h_2=>exact q5.elim
          rename_i i3 r3 s3 j3 RQ;split at q5
          case isFalse=>exact q5.elim
          rename_i acU;have Lq:=g1.trans q1;have RR:=lv q3 RQ;have Wl:Wk.bv.getD l 0=ρ.bv.getD l 0:=((Env.Le.agree hw.lens Lq).b l XH).symm;rw [Wl]at RR;refine⟨_,_,run_endRound j.code RR,?_⟩;have MD:=B0 q3 RQ (if j= .none then .ready else .done) j;rw [Wl]at MD;have dZ:=gg.le hw.lens q3.lens Lq;have hw5:HW Fs w0 (fv {Ur with hp:=Ur.hp.set i3 (.kI l r3 (if j= .none then .ready else .done) j)} st.fn st.nt st.fr) Wk _:=⟨MD.lens,cD dZ hw.kz,MD.fg,MD.nE,MD.kn,MD.own,MD.same,c_ dZ hw.lu⟩;have:=next (fv {Ur with hp:=Ur.hp.set i3 (.kI l r3 (if j= .none then .ready else .done) j)} st.fn st.nt st.fr) (.bool (.lit (decide (j= .none)))) (.bool j.code.isNone) Wk L3 _ (by omega) Lq
           (fun j hj=>(q2 j hj).trans (g2 j hj)) rfl rfl hw5 rfl (by cases j<;>rfl) q5
          cases j<;>exact this
        intro e3 a3 w3 hq3;obtain⟨k3',QA,T7⟩:=hq3;cases e3 with
        | normal=>
         cases QA;refine fin .none a3 w3 ?_;obtain⟨m3,Yd,Ur,Wk,L3,q1,q2,q3,q4,q5⟩:=T7;cases m3 with
         | zero=>exact q5.elim
         | succ m3=>exact⟨m3,by omega,Ur,Wk,L3,q1,q2,q3,q4,q5⟩
        | ret=>cases QA;exact fin .ret a3 w3 T7
        | exit id=>cases QA;exact fin (.exit id) a3 w3 T7
        | goto l=>cases QA
        | panic l=>cases QA
        | outgrown=>cases QA
      | exit id=>cases py
      | ret=>cases py
      | goto l=>cases py
      | panic l=>cases py
      | outgrown=>cases py
end
end Go.RX
