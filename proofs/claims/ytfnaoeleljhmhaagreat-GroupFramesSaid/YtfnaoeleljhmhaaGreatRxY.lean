/- A reflective symbolic executor, part 25: operations, calls. -/
import Derived.Test.YtfnaoeleljhmhaaGreatRxX
import Derived.RangeFuncLeaves
import Derived.RangeFuncRecord
import Derived.RangeFuncIn
import Derived.RangeFuncNested

namespace Go.RX
def PureOk(P:Program)(C:Ctx):Prop:= ∀f az hp r (ρ:Env),pureRes C f az hp=some r→(∀b∈r.vcs,b.prop ρ)→
 Meets P f (SV.vals ρ az) ((r.use.map fun i=>hp.getD i .emp).map (Ck.den ρ)) fun x hs=>x=r.val.val ρ∧hs=r.new.map (Ck.den ρ)
theorem PureOk.none{P:Program}{C:Ctx}(h:C.pure=fun _=>Option.none):PureOk P C:=by
 intro f az hp r ρ hp;simp [pureRes,h]at hp
def FTOk(P:Program)(FT:List (Nat×Func)):Prop:= ∀x∈FT,P.funcs[x.1]? =some x.2∧(x.2.name== "runtime.NumGoroutine")=false
section
variable {P:Program} {C:Ctx} {Post:Value→List HP→Prop} {Fs:List HP} {w0:World}
theorem vals_append{ρ:Env}(a b:List SV):SV.vals ρ (a++b)=SV.vals ρ a++SV.vals ρ b:=by
 induction a with
 | nil=>rfl
 | cons x r ih=>simp only [List.cons_append,SV.vals,ih]
theorem vals_get{ρ:Env}: ∀(l:List SV) (i:Nat),(SV.vals ρ l)[i]? =(l[i]?).map (SV.val ρ)
 | [],i=>by simp [SV.vals]
 | x::r,0=>by simp [SV.vals]
 | x::r,i+1=>by simp only [SV.vals,List.getElem?_cons_succ];exact vals_get r i
theorem look_enum{ρ:Env}: ∀(l:List SV) (n s:Nat) (v:SV),look (enumFrom n l) s=some v→n≤s∧l[s - n]? =some v
 | [],n,s,v,h=>by cases h
 | x::r,n,s,v,h=>by
  unfold enumFrom look at h;split at h
  ·rename_i hs;rw [beq_iff_eq]at hs;subst hs;cases h;exact⟨Nat.le_refl _,by simp⟩
  ·rename_i hs;obtain⟨h1,h2⟩:=look_enum (ρ:=ρ) r (n+1) s v h;refine⟨by omega,?_⟩;rw [show s - n=(s - (n+1))+1 by omega,List.getElem?_cons_succ];exact h2
theorem enum_sc{c:Cnt}: ∀(l:List SV) (n:Nat),SV.scL c l=true→frSc c (enumFrom n l)=true
 | [],n,_=>rfl
 | x::r,n,h=>by
  simp only [SV.scL,Bool.and_eq_true]at h;simp only [enumFrom,frSc,List.all_cons,Bool.and_eq_true];exact⟨h.1,enum_sc r (n+1) h.2⟩
theorem enter_HA{ρ:Env}(az:List SV)(nt:Nat):HA (enumFrom 0 az) ⟨nt,[]⟩ ρ {tmps:=(SV.vals ρ az).toArray++Array.replicate (nt - (SV.vals ρ az).toArray.size) undef,defers:=[]}:=by
 refine⟨rfl,by simp;omega,fun s v hs=>?_⟩;obtain⟨_,h2⟩:=look_enum (ρ:=ρ) az 0 s v hs;rw [Nat.sub_zero]at h2;have h3:(SV.vals ρ az)[s]? =some (v.val ρ):=by rw [vals_get,h2];rfl
 rw [Array.getD_eq_getD_getElem?,Array.getElem?_append_left (by simpa using (List.getElem?_eq_some_iff.1 h3).1)];simp [h3]
theorem meth_run{T:List TI}(hT:checkT P T=true){t:Nat}{name:String}{f:Nat}(h:methOf T t name=some f)(x:Value)(args:Array Value)(w:World):
  (callMethod (.iface t x) name args).run P w=(callFunc f (#[x]++args)).run P w:=by
 unfold methOf at h;split at h
 ·rename_i ti hti;rw [Option.map_eq_some_iff]at h;obtain⟨y,hy,rfl⟩:=h;obtain⟨rfl,hI⟩:=tlook_spec hT hti;have hm:=hI.ms;unfold msOk at hm;have h1:=List.all_eq_true.1 hm y (List.mem_of_find?_eq_some hy);have hn:=List.find?_some hy;rw [beq_iff_eq]at hn;subst hn;split at h1
  ·rename_i e i hu hi;split at h1
   ·rename_i m hm;rw [Bool.and_eq_true,beq_iff_eq]at h1;have hp:m.path= #[]:=by
     have:=h1.1;cases hq:m.path with
     | mk l=>cases l with
      | nil=>rfl
      | cons a r=>rw [hq]at this;cases this
    unfold callMethod;simp only [Sem.run_bind,run_program,Result.andThen_ok];rw [show P.types.size+Made.depth=(P.types.size+99)+1 from rfl];unfold method;simp only [Sem.run_bind,run_typeInfo w hi,Result.andThen_ok,hm,hp,h1.2];simp [follow,receiverAt,Place.get,run_underlying hu]
   ·cases h1
  ·cases h1
 ·cases h
theorem call_run{T:List TI}(hT:checkT P T=true){ρ:Env}{a:Act}{w:World}{lk:Nat→Option SV}(hlk:OpsOk ρ lk a.eval){o:Oper}{f:Nat}{az:List SV}(h:callOf T lk o=some (f,az))
  {fd:Func} (hf:P.funcs[f]? =some fd) (hn:(fd.name== "runtime.NumGoroutine")=false) {c:Code} (hb:fd.body=some c):
  (execOp a.eval o).run P w= .ok (.enter f (SV.vals ρ az).toArray) w∧∀c,o.op≠ .defer c:=by
 unfold callOf at h;split at h
 ·rename_i fop args argTypes hop;split at h
  ·rename_i f' caps as0 h1 h2;cases h;have e1:=opEval_spec hlk h1;have e2:=optAll_spec hlk _ _ h2;have e3:Array.map a.eval args=(SV.vals ρ as0).toArray:=Array.ext' (by rw [Array.toList_map,e2]);refine⟨?_,fun c hc=>by rw [hop]at hc;cases hc⟩;simp only [execOp,hop,resolve,e1,SV.val,Deferred.ofValue,Sem.run_bind,Sem.run_pure,Result.andThen_ok,invoke,callFunc,e3];have hn': ¬fd.name= "runtime.NumGoroutine" :=by simpa using hn
   simp [hf,hn',hb,vals_append]
  ·rename_i f' first as0 h1 h2
   cases h;have e1:=opEval_spec hlk h1;have e2:=optAll_spec hlk _ _ h2;have e3:Array.map a.eval args=(SV.vals ρ as0).toArray:=Array.ext' (by rw [Array.toList_map,e2]);refine⟨?_,fun c hc=>by rw [hop]at hc;cases hc⟩;simp only [execOp,hop,resolve,e1,SV.val,Deferred.ofValue,Sem.run_bind,Sem.run_pure,Result.andThen_ok,invoke,callFunc,e3];have hn': ¬fd.name= "runtime.NumGoroutine" :=by simpa using hn
   simp [hf,hn',hb,vals_append]
  ·rename_i name t b c as0 h1 h2;rw [Option.map_eq_some_iff]at h;obtain⟨f',hm,h⟩:=h;cases h;have e1:=opEval_spec hlk h1;have e2:=optAll_spec hlk _ _ h2;have e3:Array.map a.eval args=(SV.vals ρ as0).toArray:=Array.ext' (by rw [Array.toList_map,e2]);refine⟨?_,fun c hc=>by rw [hop]at hc;cases hc⟩;have hq:=meth_run hT hm (.pointer (some ⟨ρ.bv.getD b 0,c,none⟩)) (SV.vals ρ as0).toArray w;simp only [execOp,hop,resolve,e1,SV.val,Deferred.ofValue,Sem.run_bind,Sem.run_pure,Result.andThen_ok,invoke,e3];simp only [callFunc]at hq;have hn': ¬fd.name= "runtime.NumGoroutine" :=by simpa using hn
   simp [hf,hn',hb]at hq;simp [SV.vals,SV.val,hq]
  ·cases h
 ·rename_i recv name args argTypes hop;split at h
  ·rename_i t b c as0 h1 h2;rw [Option.map_eq_some_iff]at h;obtain⟨f',hm,h⟩:=h;cases h;have e1:=opEval_spec hlk h1;have e2:=optAll_spec hlk _ _ h2;have e3:Array.map a.eval args=(SV.vals ρ as0).toArray:=Array.ext' (by rw [Array.toList_map,e2]);refine⟨?_,fun c hc=>by rw [hop]at hc;cases hc⟩;have hq:=meth_run hT hm (.pointer (some ⟨ρ.bv.getD b 0,c,none⟩)) (SV.vals ρ as0).toArray w;simp only [execOp,hop,resolve,e1,SV.val,Sem.run_bind,Sem.run_pure,Result.andThen_ok,invoke,e3];simp only [callFunc]at hq;have hn': ¬fd.name= "runtime.NumGoroutine" :=by simpa using hn
   simp [hf,hn',hb]at hq;simp [SV.vals,SV.val,hq]
  ·cases h
 ·cases h
theorem call_eq{T:List TI}(hT:checkT P T=true){ρ:Env}{a:Act}{w:World}{lk:Nat→Option SV}(hlk:OpsOk ρ lk a.eval){o:Oper}{f:Nat}{az:List SV}(h:callOf T lk o=some (f,az)):
  (execOp a.eval o).run P w=(callFunc f (SV.vals ρ az).toArray).run P w∧∀c,o.op≠ .defer c:=by
 unfold callOf at h;split at h
 ·rename_i fop args argTypes hop;split at h
  ·rename_i f' caps as0 h1 h2;cases h;have e1:=opEval_spec hlk h1;have e2:=optAll_spec hlk _ _ h2;have e3:Array.map a.eval args=(SV.vals ρ as0).toArray:=Array.ext' (by rw [Array.toList_map,e2]);refine⟨?_,fun c hc=>by rw [hop]at hc;cases hc⟩;simp only [execOp,hop,resolve,e1,SV.val,Deferred.ofValue,Sem.run_bind,Sem.run_pure,Result.andThen_ok,invoke,e3,vals_append];simp
  ·rename_i f' first as0 h1 h2
   cases h;have e1:=opEval_spec hlk h1;have e2:=optAll_spec hlk _ _ h2;have e3:Array.map a.eval args=(SV.vals ρ as0).toArray:=Array.ext' (by rw [Array.toList_map,e2]);refine⟨?_,fun c hc=>by rw [hop]at hc;cases hc⟩;simp only [execOp,hop,resolve,e1,SV.val,Deferred.ofValue,Sem.run_bind,Sem.run_pure,Result.andThen_ok,invoke,e3,vals_append];simp
  ·rename_i name t b c as0 h1 h2;rw [Option.map_eq_some_iff]at h;obtain⟨f',hm,h⟩:=h;cases h;have e1:=opEval_spec hlk h1;have e2:=optAll_spec hlk _ _ h2;have e3:Array.map a.eval args=(SV.vals ρ as0).toArray:=Array.ext' (by rw [Array.toList_map,e2]);refine⟨?_,fun c hc=>by rw [hop]at hc;cases hc⟩;have hq:=meth_run hT hm (.pointer (some ⟨ρ.bv.getD b 0,c,none⟩)) (SV.vals ρ as0).toArray w;simp only [execOp,hop,resolve,e1,SV.val,Deferred.ofValue,Sem.run_bind,Sem.run_pure,Result.andThen_ok,invoke,e3];simpa [SV.vals,SV.val] using hq
  ·cases h
 ·rename_i recv name args argTypes hop;split at h
  ·rename_i t b c as0 h1 h2;rw [Option.map_eq_some_iff]at h;obtain⟨f',hm,h⟩:=h;cases h;have e1:=opEval_spec hlk h1;have e2:=optAll_spec hlk _ _ h2;have e3:Array.map a.eval args=(SV.vals ρ as0).toArray:=Array.ext' (by rw [Array.toList_map,e2]);refine⟨?_,fun c hc=>by rw [hop]at hc;cases hc⟩;have hq:=meth_run hT hm (.pointer (some ⟨ρ.bv.getD b 0,c,none⟩)) (SV.vals ρ as0).toArray w;simp only [execOp,hop,resolve,e1,SV.val,Sem.run_bind,Sem.run_pure,Result.andThen_ok,invoke,e3];simpa [SV.vals,SV.val] using hq
  ·cases h
 ·cases h
theorem callsFW{ro:Option Nat}{n:Nat}{f:FuncId}{args:Array Value}{w:World}{R:Ending→World→Prop}(h:Calls P f args w R):CallsIn (FW ro) n P f args w R:=by
 have:CallsIn Fence.wide n P f args w R:=callsIn_wide.2 h;exact this
theorem callsFW'{ro:Option Nat}{n:Nat}{f:FuncId}{args:Array Value}{w:World}{R:Ending→World→Prop}(h:CallsIn (FW none) n P f args w R):CallsIn (FW ro) n P f args w R:=h
theorem leave_many{fn:Func}{tmps:Array Value}{R:Ending→World→Prop}{u:FrameMode}(hu:u≠ .run){r:List Deferred}{i:Nat}: ∀{l:List Nat} {hs:List HP} {w:World},hs[i]? =some (dfrsHP l)→Owns (hs++Fs) w→
  (∀w',Owns (hs.set i HP.emp++Fs) w'→Same w w'→LeavesInM (FW none) 0 P fn tmps R r u w')→LeavesInM (FW none) 0 P fn tmps R (l.map (fun b=>{target:= .collected b,args:= #[]})++r) u w
 | [],hs,w,hi,ho,hk=>by
  obtain⟨S,hS⟩:=ho;refine hk w ?_ (Same.refl w);have hat:=hS.at_ i _ (by rw [List.getElem?_append_left (List.getElem?_eq_some_iff.1 hi).1];exact hi);exact Owns.step hS i _ _ hi rfl (fun _=>False) (Nat.le_refl _) (fun _ _ _=>rfl) (fun k hk=>hk) (fun k hk=>hk.elim)
 | b::l,hs,w,hi,ho,hk=>by
  obtain⟨S,hS⟩:=ho;have hlt:=(List.getElem?_eq_some_iff.1 hi).1;have hat:=hS.at_ i _ (by rw [List.getElem?_append_left hlt];exact hi);obtain⟨⟨p1,p2,p3⟩,p4⟩:=hat;have hblk:w.heap[b]? =some (.deferred (some [])):=p3 b List.mem_cons_self;have hbn:=(List.nodup_cons.1 p2);refine⟨hu,.inl ⟨b,w.putObj b (.deferred none),rfl,run_takeDeferred hblk,?_⟩⟩;have hown:Owns (hs.set i (dfrsHP l)++Fs) (w.putObj b (.deferred none)):=by
   refine Owns.step hS i _ _ hi rfl (fun k=>k∈l) (by simp [World.putObj]) (fun k hk hn=>?_) ⟨fun k=>Iff.rfl,hbn.2,fun k hk=>?_⟩ (fun k hk=> .inl ((p1 k).2 (List.mem_cons_of_mem _ hk)))
   ·exact World.putObj_heap_other (fun e=>hn ((p1 k).2 (by rw [e];exact List.mem_cons_self)))
   ·rw [World.putObj_heap_other (fun e=>hbn.1 (by rw [←e];exact hk))];exact p3 k (List.mem_cons_of_mem _ hk)
  refine leave_many hu (l:=l) (hs:=hs.set i (dfrsHP l)) (by rw [List.getElem?_set_self hlt]) hown fun w' ho' hsm=>?_
  rw [List.set_set]at ho';exact hk w' ho' ((show Same w (w.putObj b (.deferred none))from⟨rfl,rfl,rfl,by simp⟩).trans hsm)
theorem leave_sound{fn:Func}{tmps:Array Value}{R:Ending→World→Prop}{u:FrameMode}(hu:u≠ .run){ρ:Env}: ∀{ds:List MK} {hp hp':List Ck} {w:World},leave hp ds=some hp'→Owns (hp.map (Ck.den ρ)++Fs) w→
  (∀w',Owns (hp'.map (Ck.den ρ)++Fs) w'→Same w w'→LeavesInM (FW none) 0 P fn tmps R [] u w')→LeavesInM (FW none) 0 P fn tmps R (marks ρ ds) u w
 | [],hp,hp',w,h,ho,hk=>by
  simp only [leave,Option.some.injEq]at h;subst h;exact hk w ho (Same.refl w)
 | .many d::ds,hp,hp',w,h,ho,hk=>by
  unfold leave at h;split at h
  ·rename_i i hi;rw [List.findIdx?_eq_some_iff_getElem]at hi;obtain⟨hlt,hd,_⟩:=hi;have hget:hp[i]? =some (.dfrs d):=by
    cases hc:hp[i]with
    | dfrs b=>
     rw [hc]at hd;simp only [Ck.isDfrs,beq_iff_eq]at hd;subst hd;rw [List.getElem?_eq_getElem hlt,hc]
    | _=>rw [hc]at hd;simp [Ck.isDfrs]at hd
   have hgd:(hp.map (Ck.den ρ))[i]? =some (dfrsHP (listOf (ρ.bv.getD d 0))):=by rw [List.getElem?_map,hget];rfl
   rw [show marks ρ (.many d::ds)=(listOf (ρ.bv.getD d 0)).map (fun b=>{target:= .collected b,args:= #[]})++marks ρ ds by simp only [marks,List.flatMap_cons,MK.blocks,List.map_append]];refine leave_many hu hgd ho fun w' ho' hsm=>?_
   have ho2:Owns ((hp.set i .emp).map (Ck.den ρ)++Fs) w':=by rw [List.map_set];exact ho'
   exact leave_sound hu h ho2 fun w2 h2 hsm2=>hk w2 h2 (hsm.trans hsm2)
  ·cases h
 | .one d::ds,hp,hp',w,h,ho,hk=>by
  unfold leave at h;split at h
  ·rename_i i hi;rw [List.findIdx?_eq_some_iff_getElem]at hi;obtain⟨hlt,hd,_⟩:=hi;have hget:hp[i]? =some (.dfr d):=by
    cases hc:hp[i]with
    | dfr b=>
     rw [hc]at hd;simp only [Ck.isDfr,beq_iff_eq]at hd;subst hd;rw [List.getElem?_eq_getElem hlt,hc]
    | _=>rw [hc]at hd;simp [Ck.isDfr]at hd
   obtain⟨S,hS⟩:=ho;have hgd:(hp.map (Ck.den ρ))[i]? =some (dfrHP (ρ.bv.getD d 0)):=by rw [List.getElem?_map,hget];rfl
   have hat:=hS.at_ i _ (by rw [List.getElem?_append_left (by simpa using hlt)];exact hgd);have hblk:w.heap[ρ.bv.getD d 0]? =some (.deferred (some [])):=hat.1.2;have hbl:ρ.bv.getD d 0<w.heap.size:=(Array.getElem?_eq_some_iff.1 hblk).1;refine⟨hu,.inl ⟨ρ.bv.getD d 0,w.putObj (ρ.bv.getD d 0) (.deferred none),rfl,run_takeDeferred hblk,?_⟩⟩;have hown:Owns ((hp.set i .emp).map (Ck.den ρ)++Fs) (w.putObj (ρ.bv.getD d 0) (.deferred none)):=by
    rw [List.map_set];refine Owns.step hS i _ _ hgd rfl (fun _=>False) (by simp [World.putObj]) (fun k hk hn=>?_) (fun k hk=>hk) (fun k hk=>hk.elim);exact World.putObj_heap_other (fun e=>hn ((hat.1.1 k).2 e))
   refine leave_sound hu h hown fun w' ho' hsm=>hk w' ho' ((show Same w (w.putObj (ρ.bv.getD d 0) (.deferred none))from⟨rfl,rfl,rfl,by simp⟩).trans hsm)
  ·cases h
theorem leave_sc{c:Cnt}: ∀{ds:List MK} {hp hp':List Ck},leave hp ds=some hp'→hp.all (Ck.sc c)=true→hp'.all (Ck.sc c)=true
 | [],hp,hp',h,hs=>by simp only [leave,Option.some.injEq]at h;subst h;exact hs
 | .many d::ds,hp,hp',h,hs=>by
  unfold leave at h;split at h
  ·refine leave_sc h (List.all_eq_true.2 fun x hx=>?_);rcases List.mem_or_eq_of_mem_set hx with hx | rfl
   ·exact List.all_eq_true.1 hs x hx
   ·rfl
  ·cases h
 | .one d::ds,hp,hp',h,hs=>by
  unfold leave at h;split at h
  ·refine leave_sc h (List.all_eq_true.2 fun x hx=>?_);rcases List.mem_or_eq_of_mem_set hx with hx | rfl
   ·exact List.all_eq_true.1 hs x hx
   ·rfl
  ·cases h
theorem leaveSt_sound{fd:Func}{R:Ending→World→Prop}{st st':St}{ρ:Env}{a:Act}{w:World}(h:leaveSt st=some st')(hw:HW Fs w0 st ρ w)(ha:HA st.fr st.nt ρ a)
  (hk: ∀w',HW Fs w0 st' ρ w'→∃v,(results fd a.tmps).run P w'= .ok v w'∧R (.returned v) w'):LeavesInM (FW none) 0 P fd a.tmps R a.defers .returning w:=by
 unfold leaveSt at h;rw [Option.map_eq_some_iff]at h;obtain⟨hp',hl,rfl⟩:=h;rw [ha.defers];refine leave_sound (by simp) hl hw.own fun w' ho hsm=>?_
 obtain⟨v,h1,h2⟩:=hk w' ⟨hw.lens,hw.scf,leave_sc hl hw.sch,hw.sck,hw.kn,ho,hw.same.trans hsm,hw.scd⟩;exact⟨v,h1,h2⟩
theorem inline_call(hT:checkT P C.T=true){n:Nat}(IHc:SoundC P C Post Fs w0 n){c:Code}{fd:Func}{f:Nat}(hf:P.funcs[f]? =some fd)(hb:fd.body=some c){k:List KI}{st:St}{ρ:Env}{L:Nat→LC}{w:World}{az:List SV}{fn:Nat}{nt:NT}{fr:List (Nat×SV)}{d:Option Nat}
  (hv:VC P Post (run C n (.code c:: .call fn nt fr d fd::k) (setNt st f ⟨fd.ntmps,[]⟩ (enumFrom 0 az))) ρ L) (hsc:SV.scL st.cnt az=true) (hw:HW Fs w0 st ρ w) (hrf: ∀l r fn nt fr ps x y fd,KI.rf l r fn nt fr ps x y fd∈k→∃ρ0 c0,Lens ρ0 c0∧Env.Le ρ0 ρ∧frSc c0 fr=true∧r<c0.r∧(ρ0.lr.getD r loop0).params=ps∧(ρ0.lr.getD r loop0).assign=x∧(ρ0.lr.getD r loop0).body=y∧HA fr ⟨nt.n,[]⟩ ρ0 {tmps:=(ρ0.lr.getD r loop0).tmps,defers:=[]}) {R:Ending→World→Prop}
  (hR: ∀v w' m st' ρ' L',m<n→Env.Le ρ ρ'→(∀j,j<nl k→L' j=L j)→HW Fs w0 st' ρ' w'→v.sc st'.cnt=true→okDst (setNt st' fn nt fr) d=true→
   VC P Post (run C m k ((setNt st' fn nt fr).put d v)) ρ' L'→R (.returned (v.val ρ')) w'):
  CallsIn (FW none) 0 P f (SV.vals ρ az).toArray w R:=by
 refine callsIn_of_wp_marks hf hb trivial ?_ rfl;have hw':HW Fs w0 (setNt st f ⟨fd.ntmps,[]⟩ (enumFrom 0 az)) ρ w:=⟨hw.lens,enum_sc az 0 hsc,hw.sch,hw.sck,hw.kn,hw.own,hw.same,rfl⟩;refine wpIn_mono (IHc none c _ _ ρ L _ w hv hw' (enter_HA az fd.ntmps) ⟨fun l r fn nt fr ps x y fd hm=>hrf l r fn nt fr ps x y fd (by simpa using hm),rfl⟩) ?_;have key: ∀a' w',At P C Post Fs w0 n (.call fn nt fr d fd::k) ρ L a' w'→LeavesInM (FW none) 0 P fd a'.tmps R a'.defers .returning w':=by
  intro a' w' ⟨m,hm,st',ρ',L',h1,h2,h3,h4,h5⟩;cases m with
  | zero=>exact h5.elim
  | succ m=>
   simp only [run]at h5;split at h5
   case h_2=>exact h5.elim
   rename_i st2 hlv;have hst2:st2.fr=st'.fr∧st2.nt=st'.nt∧st2.cnt=st'.cnt:=by
    unfold leaveSt at hlv;rw [Option.map_eq_some_iff]at hlv;obtain⟨hp',_,rfl⟩:=hlv;exact⟨rfl,rfl,rfl⟩
   split at h5
   ·rename_i v hv;split at h5
    ·rename_i hc;simp only [Bool.and_eq_true]at hc;refine leaveSt_sound hlv h3 h4 fun w2 hw2=>?_
     refine⟨_,resAll_sound hT hw2 (nt:=st'.nt) (by rw [hst2.1];exact h4) hv,hR v w2 m st2 ρ' L' (by omega) h1 h2 hw2 hc.2 hc.1 h5⟩
    ·exact h5.elim
   ·exact h5.elim
 intro e a' w' hq;obtain⟨k',hk,hat⟩:=hq;cases e with
 | normal=>cases hk;exact key a' w' hat
 | ret=>cases hk;exact key a' w' hat
 | exit id=>cases hk
 | goto l=>cases hk
 | panic l=>cases hk
 | outgrown=>cases hk
theorem okDst_lt{st:St}{d:Option Nat}(h:okDst st d=true): ∀x,d=some x→x<st.nt.n:=by
 intro x hx;subst hx;simpa [okDst,Nat.blt_eq] using h
theorem recAt_spec{hp:List Ck}{l i r:Nat}{s:RS}{j:Jump}(h:recAt hp l=some (i,r,s,j)):hp[i]? =some (.lrec l r s j):=by
 unfold recAt at h;split at h
 ·rename_i q hq;split at h
  ·rename_i l' r' s' j' hg;cases h;rw [List.findIdx?_eq_some_iff_getElem]at hq;obtain⟨hlt,hd,_⟩:=hq;rw [List.getElem?_eq_getElem hlt,Option.some.injEq]at hg;rw [hg]at hd;simp only [Ck.isRec,beq_iff_eq]at hd;subst hd;rw [List.getElem?_eq_getElem hlt,hg]
  ·cases h
 ·cases h
theorem findRec_spec{l:Nat}: ∀{k:List KI} {r fn:Nat} {nt:NT} {fr:List (Nat×SV)} {ps:Array Tmp} {x y:Code},findRec l k=some (r,fn,nt,fr,ps,x,y)→∃fd,KI.rf l r fn nt fr ps x y fd∈k
 | [],_,_,_,_,_,_,_,h=>by cases h
 | i::k,r,fn,nt,fr,ps,x,y,h=>by
  have go:findRec l k=some (r,fn,nt,fr,ps,x,y)→∃fd,KI.rf l r fn nt fr ps x y fd∈i::k:=fun h'=>by
   obtain⟨fd,hm⟩:=findRec_spec h';exact⟨fd,List.mem_cons_of_mem _ hm⟩
  cases i with
  | rf l' r' fn' nt' fr' ps' x' y' fd'=>
   unfold findRec at h;split at h
   ·rename_i hl;rw [beq_iff_eq]at hl;cases h;subst hl;exact⟨fd',List.mem_cons_self⟩
   ·exact go h
  | _=>exact go h
theorem rec_block{st:St}{ρ:Env}{w:World}(hw:HW Fs w0 st ρ w){l i r:Nat}{s:RS}{j:Jump}(h:recAt st.hp l=some (i,r,s,j)):
  w.heap[ρ.bv.getD l 0]? =some (.loop {ρ.lr.getD r loop0 with state:=s.st,pending:=j.code}):=by
 obtain⟨S,hS⟩:=hw.own;have hi:=recAt_spec h;have hlt:=(List.getElem?_eq_some_iff.1 hi).1;exact(hS.at_ i ((Ck.lrec l r s j).den ρ) (by rw [List.getElem?_append_left (by simpa using hlt),List.getElem?_map,hi];rfl)).1.2
theorem rec_set{st:St}{ρ:Env}{w:World}(hw:HW Fs w0 st ρ w){l i r:Nat}{s:RS}{j:Jump}(h:recAt st.hp l=some (i,r,s,j))(s':RS)(j':Jump):
  HW Fs w0 {st with hp:=st.hp.set i (.lrec l r s' j')} ρ (w.putObj (ρ.bv.getD l 0) (.loop {ρ.lr.getD r loop0 with state:=s'.st,pending:=j'.code})):=by
 have hi:=recAt_spec h;have hb:=rec_block hw h;have hbl:ρ.bv.getD l 0<w.heap.size:=(Array.getElem?_eq_some_iff.1 hb).1;have hlt:=(List.getElem?_eq_some_iff.1 hi).1;obtain⟨S,hS⟩:=hw.own;have hgd:(st.hp.map (Ck.den ρ))[i]? =some ((Ck.lrec l r s j).den ρ):=by rw [List.getElem?_map,hi];rfl
 have hat:=hS.at_ i _ (by rw [List.getElem?_append_left (by simpa using hlt)];exact hgd);have hsc:=List.all_eq_true.1 hw.sch _ (List.mem_of_getElem? hi);refine⟨hw.lens,hw.scf,List.all_eq_true.2 fun q hq=>?_,hw.sck,hw.kn,?_,hw.same.trans ⟨rfl,rfl,rfl,by simp⟩,hw.scd⟩
 ·rcases List.mem_or_eq_of_mem_set hq with hq | rfl
  ·exact List.all_eq_true.1 hw.sch q hq
  ·exact hsc
 ·show Owns ((st.hp.set i (.lrec l r s' j')).map (Ck.den ρ)++Fs) _;rw [List.map_set];refine Owns.step hS i _ _ hgd rfl (S i) (by simp) (fun k hk hn=>World.putObj_heap_other (fun e=>hn ((hat.1.1 k).2 e))) ⟨hat.1.1,?_⟩ (fun k hk=> .inl hk);exact World.putObj_heap_same hbl
theorem putAll_sound{ρ:Env}: ∀{l:List (Nat×SV)} {st st1:St} {a:Act} {w:World},putAll st l=some st1→HW Fs w0 st ρ w→HA st.fr st.nt ρ a→
  HW Fs w0 st1 ρ w∧HA st1.fr st1.nt ρ (l.foldl (fun a x=>a.put (some x.1) (x.2.val ρ)) a)∧st1.cnt=st.cnt∧st1.hp=st.hp
 | [],st,st1,a,w,h,hw,ha=>by
  simp only [putAll,Option.some.injEq]at h;subst h;exact⟨hw,ha,rfl,rfl⟩
 | (d,v)::r,st,st1,a,w,h,hw,ha=>by
  unfold putAll at h;split at h
  ·rename_i hc;rw [Bool.and_eq_true]at hc;have ha':=ha.put (d:=some d) (v:=v) (u:=v.val ρ) (okDst_lt hc.1) rfl st rfl;have e:=put_rest st (some d) v;obtain⟨h1,h2,h3,h4⟩:=putAll_sound h (hw.put hc.2) (by rw [e.2.2.2.1];exact ha');exact⟨h1,h2,h3.trans e.2.1,h4.trans e.1⟩
  ·cases h
theorem yield_run{ρ:Env}{a:Act}{w:World}{fr:List (Nat×SV)}{nt:NT}(ha:HA fr nt ρ a){o:Oper}{l:Nat}{az:List SV}(h:yldOf (look fr) o=some (l,az)){r:Loop}(hb:w.heap[ρ.bv.getD l 0]? =some (.loop r))
  (hs:az.length=r.params.size):
  (execOp a.eval o).run P w= .ok (.round (ρ.bv.getD l 0) r.fn ((r.params.zip (SV.vals ρ az).toArray).foldl (fun tmps (t,a)=>tmps.setIfInBounds t a) r.tmps) r.assign r.body) w∧∀c,o.op≠ .defer c:=by
 unfold yldOf at h;split at h
 ·rename_i fop args argTypes hop;split at h
  ·rename_i l' as0 h1 h2;cases h;have e1:=opEval_spec ha.eval h1;have e2:=optAll_spec ha.eval _ _ h2;have e3:Array.map a.eval args=(SV.vals ρ az).toArray:=Array.ext' (by rw [Array.toList_map,e2]);refine⟨?_,fun c hc=>by rw [hop]at hc;cases hc⟩;have hlen: ∀l:List SV,(SV.vals ρ l).length=l.length:=by
    intro l;induction l with
    | nil=>rfl
    | cons x r ih=>simp [SV.vals,ih]
   have hy:=run_yield (P:=P) (args:=(SV.vals ρ az).toArray) hb (by simp [hlen,hs]);simp only [execOp,hop,resolve,e1,SV.val,Deferred.ofValue,Sem.run_bind,Sem.run_pure,Result.andThen_ok,invoke,e3,Array.empty_append];exact hy
  ·cases h
 ·cases h
theorem foldl_puts{ρ:Env}(ps:Array Tmp)(az:List SV)(t:Array Value):
  (ps.toList.zip az).foldl (fun a x=>a.put (some x.1) (x.2.val ρ)) ({tmps:=t,defers:=[]}:Act)=
   {tmps:=(ps.zip (SV.vals ρ az).toArray).foldl (fun tmps (t,a)=>tmps.setIfInBounds t a) t,defers:=[]}:=by
 rw [←Array.foldl_toList,Array.toList_zip];generalize ps.toList=l
 induction l generalizing az t with
 | nil=>rfl
 | cons d l ih=>
  cases az with
  | nil=>rfl
  | cons v az=>
   simp only [List.zip_cons_cons,List.foldl_cons,SV.vals];exact ih az _
theorem soundO_step(hT:checkT P C.T=true)(hFT:FTOk P C.FT)(hPu:PureOk P C){n:Nat}(IHc: ∀m,m<n→SoundC P C Post Fs w0 m)(IHo: ∀m,m<n→SoundO P C Post Fs w0 m):SoundO P C Post Fs w0 n:=by
 intro ro all r k st ρ L a w hv hw ha hstk;cases n with
 | zero=>exact hv.elim
 | succ n=>
  have hn:n<n+1:=Nat.lt_succ_self n;have up: ∀{e:Exit} {a:Act} {w:World} {ρ':Env} {L':Nat→LC},Env.Le ρ ρ'→(∀j,j<nl k→L' j=L j)→QK P C Post Fs w0 n k ρ' L' e a w→QK P C Post Fs w0 (n+1) k ρ L e a w:=fun h1 h2 hq=>hq.mono (Nat.le_succ n) h1 h2
  cases r with
  | nil=>
   simp only [run]at hv;exact QK.here hn rfl hv hw ha
  | cons o r=>
   simp only [run]at hv;split at hv
   case isFalse=>exact hv.elim
   rename_i hdst;have hd:=okDst_lt hdst;have hd0:=hd;have next: ∀{m:Nat} (st':St) (v:SV) (u:Value) (ρ':Env) (L':Nat→LC) (w':World),m≤n→Env.Le ρ ρ'→(∀j,j<nl k→L' j=L j)→st'.fr=st.fr→st'.nt=st.nt→HW Fs w0 st' ρ' w'→v.sc st'.cnt=true→u=v.val ρ'→
     VC P Post (run C m (.ops all r::k) (st'.put o.dst v)) ρ' L'→wpListIn (FW ro) 0 P all (QK P C Post Fs w0 (n+1) k ρ L) r (a.put o.dst u) w':=by
    intro m st' v u ρ' L' w' hm h1 h2 hfr hnt h3 h4 h5 h6;have hag:=Env.Le.agree hw.lens h1;have ha':=(ha.more hw.scf hw.scd hag).put (d:=o.dst) (v:=v) (u:=u) hd h5 st' hfr;have:=IHo m (by omega) ro all r k _ ρ' L' (a.put o.dst u) w' h6 (h3.put h4) (by rw [(put_rest st' o.dst v).2.2.2.1,hnt];exact ha') (hstk.le h1);exact wpListIn_mono (fun e a w hq=>hq.mono (by omega) h1 h2) this
   have nextHere: ∀{m:Nat} (v:SV) (u:Value),m≤n→v.sc st.cnt=true→u=v.val ρ→VC P Post (run C m (.ops all r::k) (st.put o.dst v)) ρ L→wpListIn (FW ro) 0 P all (QK P C Post Fs w0 (n+1) k ρ L) r (a.put o.dst u) w:=
    fun v u hm h1 h2 h3=>next st v u ρ L w hm (Env.Le.refl _) (fun _ _=>rfl) rfl rfl hw h1 h2 h3
   unfold wpListIn;split at hv
   ·exact hv.elim
   ·
    rename_i hg;have hwant:=guardAt_sound ha hw.kn hg;simp only [gden,BE.den]at hwant;rw [if_neg (by rw [hwant];simp)];exact⟨fun _ _=>trivial,nextHere .undef undef (Nat.le_refl _) rfl rfl hv⟩
   ·
    rename_i c hcl hg;have hwant:=guardAt_sound ha hw.kn hg;simp only [gden]at hwant;split at hv
    case isFalse=>exact hv.elim
    rename_i hcs;have fork:VC P Post (.fork c (run C n (.ops all ({o with guard:=none}::r)::k) (st.onC c)) (run C n (.ops all r::k) ((st.offC c).put o.dst .undef))) ρ L→
      (if Region.wanted o (yielded all a.tmps)=true then o.wpIn (FW ro) 0 P a w (wpListIn (FW ro) 0 P all (QK P C Post Fs w0 (n+1) k ρ L) r) (QK P C Post Fs w0 (n+1) k ρ L)
       else(∀f,o.about P w a.eval=some f→(FW ro).fn f)∧wpListIn (FW ro) 0 P all (QK P C Post Fs w0 (n+1) k ρ L) r (a.put o.dst undef) w):=by
     intro hf;simp only [VC,Fork]at hf;rw [hwant];cases hd:c.den ρ with
     | true=>
      rw [if_pos rfl];have hw1:HW Fs w0 (st.onC c) ρ w:=by
       have:=hw.know ((BE.den_iff ρ c).1 hd) hcs;refine⟨this.lens,List.all_eq_true.2 fun x hx=>?_,this.sch,this.sck,this.kn,this.own,this.same,this.scd⟩;obtain⟨y,hy,rfl⟩:=List.mem_map.1 hx;exact SV.onC_sc (List.all_eq_true.1 hw.scf y hy)
      have h1:=IHo n hn ro all ({o with guard:=none}::r) k (st.onC c) ρ L a w (hf.1 ((BE.den_iff ρ c).1 hd)) hw1 (HA.onC ha hd) hstk;unfold wpListIn at h1;rw [if_pos (by simp [Region.wanted])]at h1;exact guard_none_wp (Oper.wpIn_mono2 (fun a w h=>wpListIn_mono (fun e a w hq=>up (Env.Le.refl _) (fun _ _=>rfl) hq) h) (fun e a w hq=>up (Env.Le.refl _) (fun _ _=>rfl) hq) h1)
     | false=>
      rw [if_neg (by simp)];have hw2:HW Fs w0 (st.offC c) ρ w:=by
       have:=hw.know (b:=bNot c) (by rw [←BE.den_iff,bNot_den,hd];rfl) (bNot_sc hcs);refine⟨this.lens,List.all_eq_true.2 fun x hx=>?_,this.sch,this.sck,this.kn,this.own,this.same,this.scd⟩;obtain⟨y,hy,rfl⟩:=List.mem_map.1 hx;exact SV.offC_sc (List.all_eq_true.1 hw.scf y hy)
      have ha2:=(HA.offC ha hd).put (d:=o.dst) (v:= .undef) (u:=undef) hd0 rfl (st.offC c) rfl;have:=IHo n hn ro all r k _ ρ L (a.put o.dst undef) w (hf.2 fun h=>by rw [←BE.den_iff,hd]at h;cases h) (hw2.put rfl) (by rw [(put_rest (st.offC c) o.dst .undef).2.2.2.1];exact ha2) hstk;exact⟨fun _ _=>trivial,wpListIn_mono (fun e a w hq=>hq.mono (by omega) (Env.Le.refl _) fun _ _=>rfl) this⟩
    split at hv
    ·rename_i res hres;obtain⟨hsym,hrsc⟩:=stepVal_spec hres;split at hv
     ·rename_i heff;obtain⟨hvc,hv⟩:=wrapVc_sound hw.kn hv;simp only [gden]at hvc;rw [hwant];have hsc:=hrsc;simp only [Res.sc,Bool.and_eq_true,heff,Eff.grow]at hsc;cases hd:c.den ρ with
      | true=>
       rw [if_pos rfl];obtain⟨S,hS⟩:=hw.own;have hD:=symOp_sound (P:=P) hT (Env.ok ρ) (ha.evalKnown hw.kn (g:=some c) hd) hsym (Reads_of S hS _) (hvc hd) hw.lens.b;unfold Did at hD;rw [heff]at hD;refine wpIn_of_run (not_defer hsym) (.inl hD) ?_;refine nextHere (.opt c res.val) _ (Nat.le_refl _) ?_ ?_ hv
       ·simp only [SV.sc,Bool.and_eq_true];exact⟨hcs,hsc.1.1⟩
       ·simp only [SV.val,hd,if_true]
      | false=>
       rw [if_neg (by simp)];refine⟨fun _ _=>trivial,nextHere (.opt c res.val) undef (Nat.le_refl _) ?_ ?_ hv⟩
       ·simp only [SV.sc,Bool.and_eq_true];exact⟨hcs,hsc.1.1⟩
       ·simp [SV.val,hd]
     ·exact fork hv
    ·exact fork hv
   ·
    rename_i hg;have hwant:=guardAt_sound ha hw.kn hg;simp only [gden]at hwant;rw [if_pos hwant];split at hv
    ·rename_i res hres;obtain⟨hsym,hrsc⟩:=stepVal_spec hres;obtain⟨hvc,hv⟩:=wrapVc_sound hw.kn hv;have hvc:=hvc rfl;obtain⟨S,hS⟩:=hw.own;have hD:=symOp_sound (P:=P) hT (Env.ok ρ) (ha.evalKnown hw.kn (g:=none) rfl) hsym (Reads_of S hS _) hvc hw.lens.b;have hv':VC P Post (effF res.eff (run C n (.ops all r::k) (({applyEff st res.eff with known:=more res.vcs st.known}:St).put o.dst res.val))) ρ L:=by
      cases he:res.eff<;>rw [he]at hv<;>exact hv
     obtain⟨u,w',ρ',hrun,hle,hw',hu,hsc',hv2⟩:=did_step hw hS hD hrsc hvc hv';refine wpIn_of_run (not_defer hsym) hrun ?_;obtain⟨e1,e2,e3,e4,e5⟩:=applyEff_rest st res.eff;exact next {applyEff st res.eff with known:=more res.vcs st.known} res.val u ρ' L w' (Nat.le_refl _) hle (fun _ _=>rfl) e1 e2 hw' (by rw [show({applyEff st res.eff with known:=more res.vcs st.known}:St).cnt=(applyEff st res.eff).cnt from rfl,e5];exact hsc') hu hv2
    ·split at hv
     ·rename_i f az hcall;split at hv
      ·exact hv.elim
      ·rename_i fd hfind;have hmem:=List.mem_of_find?_eq_some hfind;have hx1:=List.find?_some hfind;simp only [beq_iff_eq]at hx1;obtain⟨hf,hname⟩:=hFT _ hmem;simp only at hf hname;rw [hx1]at hf;split at hv
       ·split at hv
        case h_2=>exact hv.elim
        rename_i ca hca;split at hv
        case isFalse=>exact hv.elim
        rename_i hsc;simp only [Bool.and_eq_true,decide_eq_true_eq]at hsc;obtain⟨⟨⟨hs1,hs2⟩,hs3⟩,hs4⟩:=hsc;have hlt: ∀i∈ca.use az st.hp,i<st.hp.length:=fun i hi=>by simpa [Nat.blt_eq] using List.all_eq_true.1 hs3 i hi
        simp only [VC]at hv;obtain⟨post,hmeets,hpost⟩:=hv;have hown:=Owns.takeAll (acc:=[]) (use:=ca.use az st.hp) (by simpa using hw.own) hs4 (by simpa using hlt);have huse:((ca.use az st.hp).map fun i=>st.hp.getD i .emp).map (Ck.den ρ)=(ca.use az st.hp).map (fun i=>(st.hp.map (Ck.den ρ)).getD i HP.emp):=by
         rw [List.map_map];refine List.map_congr_left fun i hi=>?_
         have:=hlt i hi;simp [this]
        rw [List.nil_append,←huse]at hown;obtain⟨v,hs,w',hR,hp,hown',hsame⟩:=hmeets w _ hown;obtain⟨hrun,hnd⟩:=call_eq (P:=P) (w:=w) hT (ha.evalKnown hw.kn rfl) hcall;have hx:=hpost v hs hp;rw [exExt_iff]at hx;obtain⟨e2,hfit,rfl,rfl,hv2⟩:=hx;have hle:=Env.le_ext ρ e2;have hag:=Env.Le.agree hw.lens hle;refine wpIn_of_run hnd (.inl (hrun.trans hR)) ?_;refine next {st with hp:=replaceHp st.hp (ca.use az st.hp) (ca.new st.cnt ((ca.use az st.hp).map fun i=>st.hp.getD i .emp)),cnt:=st.cnt.add ca.inc} (callVal ca az st.hp st.cnt) _ (ρ.ext e2) L w' (Nat.le_refl _) hle (fun _ _=>rfl) rfl rfl ?_ hs1 rfl hv2;refine⟨hw.lens.ext hfit,frSc_mono (Cnt.le_add _ _) hw.scf,?_,BEs_mono (Cnt.le_add _ _) hw.sck,fun b hb=>?_,?_,hw.same.trans hsame,dsc_mono (Cnt.le_add _ _) hw.scd⟩
        ·exact replL_all _ _ rfl _ _ _ (Cks_mono (Cnt.le_add _ _) hw.sch) hs2
        ·exact(BE.sc_prop hag (List.all_eq_true.1 hw.sck b hb)).1 (hw.kn b hb)
        ·have h1:=Owns.putAll (use:=ca.use az st.hp) hown' (fun i hi=>by rw [blank_length];simpa using hlt i hi) fun _ _=> .inr trivial
         rw [←replL_blank _ _ _ hs4,Cks_sc hag hw.sch]at h1;simp only [replaceHp];rw [map_replL];exact h1
       ·rename_i c hb;obtain⟨hrun,hnd⟩:=call_run (P:=P) (w:=w) hT (ha.evalKnown hw.kn rfl) hcall hf hname hb;refine⟨fun _ _=>trivial,?_⟩;rw [Oper.semAt_eq _ _ _ hnd,hrun,Oper.uponIn_enter];refine⟨fun h=>(by cases h),?_⟩;split at hv
        ·rename_i r0 hpur;split at hv
         case isFalse=>exact hv.elim
         rename_i hsc;simp only [Bool.and_eq_true,decide_eq_true_eq]at hsc;obtain⟨⟨⟨hs1,hs2⟩,hs3⟩,hs4⟩:=hsc;obtain⟨hvc,hv⟩:=wrapVc_sound hw.kn hv;have hlt: ∀i∈r0.use,i<st.hp.length:=fun i hi=>by simpa [Nat.blt_eq] using List.all_eq_true.1 hs3 i hi
         have hmeets:=hPu f az st.hp r0 ρ hpur (hvc rfl);have hown:=Owns.takeAll (acc:=[]) (use:=r0.use) (by simpa using hw.own) hs4 (by simpa using hlt);have huse:(r0.use.map fun i=>st.hp.getD i .emp).map (Ck.den ρ)=r0.use.map (fun i=>(st.hp.map (Ck.den ρ)).getD i HP.emp):=by
          rw [List.map_map];refine List.map_congr_left fun i hi=>?_
          have:=hlt i hi;simp [this]
         rw [List.nil_append,←huse]at hown;refine callsFW ?_;have hc:=hmeets w _ hown;intro cs;obtain⟨e,w',fr',hR,hcome,hfn,hleave⟩:=hc cs;refine⟨e,w',fr',?_,hcome,hfn,hleave⟩;obtain⟨x,hs,rfl,⟨hx,rfl⟩,hown',hsame⟩:=hR;subst hx;refine next {st with hp:=replaceHp st.hp r0.use r0.new} r0.val _ ρ L w' (Nat.le_refl _) (Env.Le.refl _) (fun _ _=>rfl) rfl rfl ⟨hw.lens,hw.scf,?_,hw.sck,hw.kn,?_,hw.same.trans hsame,hw.scd⟩ hs1 rfl hv
         ·exact replL_all _ _ rfl _ _ _ hw.sch hs2
         ·have h1:=Owns.putAll (use:=r0.use) hown' (fun i hi=>by rw [blank_length];simpa using hlt i hi) fun _ _=> .inr trivial
          rw [←replL_blank _ _ _ hs4]at h1;simp only [replaceHp];rw [map_replL];exact h1
        split at hv
        ·rename_i ca hca;split at hv
         case isFalse=>exact hv.elim
         rename_i hsc;simp only [Bool.and_eq_true,decide_eq_true_eq]at hsc;obtain⟨⟨⟨hs1,hs2⟩,hs3⟩,hs4⟩:=hsc;have hlt: ∀i∈ca.use az st.hp,i<st.hp.length:=fun i hi=>by simpa [Nat.blt_eq] using List.all_eq_true.1 hs3 i hi
         simp only [VC]at hv;obtain⟨post,hmeets,hpost⟩:=hv;have hown:=Owns.takeAll (acc:=[]) (use:=ca.use az st.hp) (by simpa using hw.own) hs4 (by simpa using hlt);have huse:((ca.use az st.hp).map fun i=>st.hp.getD i .emp).map (Ck.den ρ)=(ca.use az st.hp).map (fun i=>(st.hp.map (Ck.den ρ)).getD i HP.emp):=by
          rw [List.map_map];refine List.map_congr_left fun i hi=>?_
          have:=hlt i hi;simp [this]
         rw [List.nil_append,←huse]at hown;refine callsFW ?_;have hc:=hmeets w _ hown;intro cs;obtain⟨e,w',fr',hR,hcome,hfn,hleave⟩:=hc cs;refine⟨e,w',fr',?_,hcome,hfn,hleave⟩;obtain⟨v,hs,rfl,hp,hown',hsame⟩:=hR;have hx:=hpost v hs hp;rw [exExt_iff]at hx;obtain⟨e2,hfit,rfl,rfl,hv2⟩:=hx;have hle:=Env.le_ext ρ e2;have hag:=Env.Le.agree hw.lens hle;refine next {st with hp:=replaceHp st.hp (ca.use az st.hp) (ca.new st.cnt ((ca.use az st.hp).map fun i=>st.hp.getD i .emp)),cnt:=st.cnt.add ca.inc} (callVal ca az st.hp st.cnt) _ (ρ.ext e2) L w' (Nat.le_refl _) hle (fun _ _=>rfl) rfl rfl ?_ hs1 rfl hv2;refine⟨hw.lens.ext hfit,frSc_mono (Cnt.le_add _ _) hw.scf,?_,BEs_mono (Cnt.le_add _ _) hw.sck,fun b hb=>?_,?_,hw.same.trans hsame,dsc_mono (Cnt.le_add _ _) hw.scd⟩
         ·exact replL_all _ _ rfl _ _ _ (Cks_mono (Cnt.le_add _ _) hw.sch) hs2
         ·exact(BE.sc_prop hag (List.all_eq_true.1 hw.sck b hb)).1 (hw.kn b hb)
         ·have h1:=Owns.putAll (use:=ca.use az st.hp) hown' (fun i hi=>by rw [blank_length];simpa using hlt i hi) fun _ _=> .inr trivial
          rw [←replL_blank _ _ _ hs4,Cks_sc hag hw.sch]at h1;simp only [replaceHp];rw [map_replL];exact h1
        ·split at hv
         case isFalse=>exact hv.elim
         rename_i hsc;refine callsFW' (inline_call hT (IHc n hn) hf hb hv hsc hw (fun l r fn nt fr ps x y fd hm=>hstk.rf l r fn nt fr ps x y fd (by simpa using hm)) ?_);intro v w' m st' ρ' L' hm h1 h2 h3 h4 h5 h6;have hcl:=Lens.le hw.lens h3.lens h1;have hw3:HW Fs w0 (setNt st' st.fn st.nt st.fr) ρ' w':=⟨h3.lens,frSc_mono hcl hw.scf,h3.sch,h3.sck,h3.kn,h3.own,h3.same,dsc_mono hcl hw.scd⟩;exact next (setNt st' st.fn st.nt st.fr) v _ ρ' L' w' (Nat.le_of_lt hm) h1 h2 rfl rfl hw3 h4 rfl h6
     ·split at hv
      case h_2=>exact hv.elim
      rename_i l az hyl;split at hv
      case h_2=>exact hv.elim
      rename_i rr fn nt fr ps x y i' r' s' j' hfind hrec;split at hv
      case isFalse=>exact hv.elim
      rename_i hc;rw [Bool.and_eq_true,decide_eq_true_eq,beq_iff_eq]at hc;obtain⟨rfl,hlen⟩:=hc;split at hv
      case h_2=>exact hv.elim
      rename_i st1 hput;obtain⟨fd,hmem⟩:=findRec_spec hfind;obtain⟨ρ0,c0,k1,k2,k3,k4,k5,k6,k7,k8⟩:=hstk.rf l rr fn nt fr ps x y fd hmem;have hag0:=Env.Le.agree k1 k2;have hlr:ρ0.lr.getD rr loop0=ρ.lr.getD rr loop0:=hag0.r _ k4;rw [hlr]at k5 k6 k7 k8;have hblk:=rec_block hw hrec;obtain⟨hrun,hnd⟩:=yield_run (P:=P) ha hyl hblk (by rw [hlen,←k5]);refine⟨fun _ _=>trivial,?_⟩;rw [Oper.semAt_eq _ _ _ hnd,hrun,Oper.uponIn_round];refine⟨fun h=>(by cases h),?_⟩;refine roundIn_of_wpIn trivial ?_;simp only [k5,k6,k7];have hw1:HW Fs w0 (setNt st fn ⟨nt.n,[]⟩ fr) ρ w:=⟨hw.lens,frSc_mono (Lens.le k1 hw.lens k2) k3,hw.sch,hw.sck,hw.kn,hw.own,hw.same,rfl⟩;have ha1:HA fr ⟨nt.n,[]⟩ ρ {tmps:=(ρ.lr.getD rr loop0).tmps,defers:=[]}:=k8.more k3 rfl hag0;obtain⟨hw2,ha2,hcnt2,_⟩:=putAll_sound hput hw1 ha1;rw [foldl_puts]at ha2;have hro:FW ro=FW ro:=rfl;have hlb:l<st.cnt.b:=by
       have:=List.all_eq_true.1 hw.sch _ (List.mem_of_getElem? (recAt_spec hrec));simp only [Ck.sc,Bool.and_eq_true,Nat.blt_eq]at this;exact this.1
      have hstk1:Stk ρ (.begin l:: .code y:: .round l st.fn st.nt st.fr o.dst:: .ops all r::k) (some (ρ.bv.getD l 0)):=
       ⟨fun l r fn nt fr ps x y fd hm=>hstk.rf l r fn nt fr ps x y fd (by simpa using hm),⟨ρ,st.cnt,hw.lens,Env.Le.refl _,hlb,rfl⟩⟩
      refine wpIn_mono (IHc n hn (some (ρ.bv.getD l 0)) x _ st1 ρ L _ w hv hw2 ha2 hstk1) ?_;intro e a1 w1 hq;obtain⟨k',hk',m,hm,st2,ρ2,L2,g1,g2,g3,g4,g5⟩:=hq;cases e with
      | normal=>
       cases hk';cases m with
       | zero=>exact g5.elim
       | succ m=>
        simp only [run]at g5;split at g5
        case h_2=>exact g5.elim
        rename_i i2 r2 j2 hrec2;have hblk2:=rec_block g3 hrec2;have hbv:ρ2.bv.getD l 0=ρ.bv.getD l 0:=((Env.Le.agree hw.lens g1).b l hlb).symm;rw [hbv]at hblk2;refine⟨_,run_beginRound hblk2 rfl,?_⟩;have hw3:=rec_set g3 hrec2 .busy j2;rw [hbv]at hw3;cases m with
        | zero=>exact g5.elim
        | succ m=>
        have hstk3:Stk ρ2 (.round l st.fn st.nt st.fr o.dst:: .ops all r::k) (some (ρ.bv.getD l 0)):=
         ⟨fun l r fn nt fr ps x y fd hm=>(hstk.le g1).rf l r fn nt fr ps x y fd (by simpa using hm),⟨ρ,st.cnt,hw.lens,g1,hlb,rfl⟩⟩
        refine wpIn_mono (IHc (m+1) (by omega) (some (ρ.bv.getD l 0)) y _ _ ρ2 L2 a1 _ g5 hw3 g4 hstk3) ?_;have fin: ∀(j:Jump) (a3:Act) (w3:World),At P C Post Fs w0 (m+1) (.roundEnd l j st.fn st.nt st.fr o.dst:: .ops all r::k) ρ2 L2 a3 w3→
          ∃v w',(Instr.endRound (ρ.bv.getD l 0) j.code).run P w3= .ok v w'∧wpListIn (FW ro) 0 P all (QK P C Post Fs w0 (n+1) k ρ L) r (a.put o.dst v) w':=by
         intro j a3 w3 ⟨m3,hm3,st3,ρ3,L3,q1,q2,q3,q4,q5⟩;cases m3 with
         | zero=>exact q5.elim
         | succ m3=>
          simp only [run]at q5;split at q5
          case h_2=>exact q5.elim
          rename_i i3 r3 s3 j3 hrec3;split at q5
          case isFalse=>exact q5.elim
          rename_i hok3;have hle3:=g1.trans q1;have hblk3:=rec_block q3 hrec3;have hbv3:ρ3.bv.getD l 0=ρ.bv.getD l 0:=((Env.Le.agree hw.lens hle3).b l hlb).symm;rw [hbv3]at hblk3;refine⟨_,_,run_endRound j.code hblk3,?_⟩;have hw4:=rec_set q3 hrec3 (if j= .none then .ready else .done) j;rw [hbv3]at hw4;have hcl:=Lens.le hw.lens q3.lens hle3;have hw5:HW Fs w0 (setNt {st3 with hp:=st3.hp.set i3 (.lrec l r3 (if j= .none then .ready else .done) j)} st.fn st.nt st.fr) ρ3 _:=⟨hw4.lens,frSc_mono hcl hw.scf,hw4.sch,hw4.sck,hw4.kn,hw4.own,hw4.same,dsc_mono hcl hw.scd⟩;have:=next (setNt {st3 with hp:=st3.hp.set i3 (.lrec l r3 (if j= .none then .ready else .done) j)} st.fn st.nt st.fr) (.bool (.lit (decide (j= .none)))) (.bool j.code.isNone) ρ3 L3 _ (by omega) hle3
           (fun j hj=>(q2 j hj).trans (g2 j hj)) rfl rfl hw5 rfl (by cases j<;>rfl) q5
          cases j<;>exact this
        intro e3 a3 w3 hq3;obtain⟨k3',hk3,hat3⟩:=hq3;cases e3 with
        | normal=>
         cases hk3;refine fin .none a3 w3 ?_;obtain⟨m3,hm3,st3,ρ3,L3,q1,q2,q3,q4,q5⟩:=hat3;cases m3 with
         | zero=>exact q5.elim
         | succ m3=>exact⟨m3,by omega,st3,ρ3,L3,q1,q2,q3,q4,q5⟩
        | ret=>cases hk3;exact fin .ret a3 w3 hat3
        | exit id=>cases hk3;exact fin (.exit id) a3 w3 hat3
        | goto l=>cases hk3
        | panic l=>cases hk3
        | outgrown=>cases hk3
      | exit id=>cases hk'
      | ret=>cases hk'
      | goto l=>cases hk'
      | panic l=>cases hk'
      | outgrown=>cases hk'
end
end Go.RX
