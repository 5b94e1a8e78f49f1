/- A reflective symbolic executor, part 25e: the statement that ranges over a function. · A reflective symbolic executor, part 26: the theorem. · A reflective symbolic executor, part 27: formulas that hold at sight; what a law's statement asks. · The types and functions of the seat's program, for the executor; printed by a program of ours (wip/tools/genctx2.lean). · A reflective symbolic executor, part 28: what memory may be given up for; contracts made weaker. · A reflective symbolic executor: a printed formula az a contract, argument by argument. -/
import Derived.Test.YtfnaoeleljhmhaaGreatRxYd
import Derived.Below
import Derived.Test.YtfnaoeleljhmhaaGreatProg
import Derived.KernelRfl

namespace Go.RX
section
variable {P:Program} {C:Ctx} {Post:Value→List HP→Prop} {Fs:List HP} {w0:World}
theorem inline_rf(hT:checkT P C.T=true){n N:Nat}(hnN:n<N)(IHc: ∀m,m<N→SoundC P C Post Fs w0 m){ro:Option Nat}{c:Code}{fd:Func}{f:Nat}(hf:P.funcs[f]? =some fd)(hb:fd.body=some c){k:List KI}{st:St}{ρ ρb:Env}{L Lb:Nat→LC}{w:World}
  {az:List SV} {l r fn:Nat} {nt:NT} {fr:List (Nat×SV)} {ps:Array Tmp} {x y:Code} {a':Act}
  (hv:VC P Post (run C n (.code c:: .rf l r fn nt fr ps x y fd::k) (setNt st f ⟨fd.ntmps,[]⟩ (enumFrom 0 az))) ρ L) (hsc:SV.scL st.cnt az=true) (hw:HW Fs w0 st ρ w)
  (hstk:Stk ρ (.rf l r fn nt fr ps x y fd::k) none) (hstkk:Stk ρ k ro) (hfr:frSc st.cnt fr=true) (hds:nt.ds.all (MK.sc st.cnt)=true) (ha:HA fr nt ρ a') (hle:Env.Le ρb ρ) (hL: ∀j,j<nl k→L j=Lb j) (hl:l<st.cnt.b):
  CallsIn (FW none) 0 P f (SV.vals ρ az).toArray w (rangePost (FW ro) 0 P (ρ.bv.getD l 0) (QK P C Post Fs w0 N k ρb Lb) a'):=by
 refine callsIn_of_wp_marks hf hb trivial ?_ rfl;have hw':HW Fs w0 (setNt st f ⟨fd.ntmps,[]⟩ (enumFrom 0 az)) ρ w:=⟨hw.lens,enum_sc az 0 hsc,hw.sch,hw.sck,hw.kn,hw.own,hw.same,rfl⟩;refine wpIn_mono (IHc n hnN none c _ _ ρ L _ w hv hw' (enter_HA az fd.ntmps) hstk) ?_;have key: ∀a1 w1,At P C Post Fs w0 n (.rf l r fn nt fr ps x y fd::k) ρ L a1 w1→LeavesInM (FW none) 0 P fd a1.tmps (rangePost (FW ro) 0 P (ρ.bv.getD l 0) (QK P C Post Fs w0 N k ρb Lb) a') a1.defers .returning w1:=by
  intro a1 w1 ⟨m,hm,st',ρ',L',h1,h2,h3,h4,h5⟩;cases m with
  | zero=>exact h5.elim
  | succ m=>
   simp only [run]at h5;split at h5
   case h_2=>exact h5.elim
   rename_i st2 hlv;have hst2:st2.fr=st'.fr∧st2.nt=st'.nt∧st2.cnt=st'.cnt:=by
    unfold leaveSt at hlv;rw [Option.map_eq_some_iff]at hlv;obtain⟨hp',_,rfl⟩:=hlv;exact⟨rfl,rfl,rfl⟩
   split at h5
   case h_2=>exact h5.elim
   rename_i v i r' s j hv hrec;split at h5
   ·exact h5.elim
   ·rename_i hbusy;refine leaveSt_sound hlv h3 h4 fun w2 hw2=>?_
    refine⟨_,resAll_sound hT hw2 (nt:=st'.nt) (by rw [hst2.1];exact h4) hv,?_⟩;have hblk:=rec_block hw2 hrec;have hbv:ρ'.bv.getD l 0=ρ.bv.getD l 0:=((Env.Le.agree hw.lens h1).b l hl).symm;rw [hbv]at hblk;refine⟨j.code,_,run_endLoop hblk (by cases s<;>first | (simp [RS.st];done) | exact absurd rfl hbusy),?_⟩;have hw3:=rec_set hw2 hrec .exhausted j;rw [hbv]at hw3;have hcl:=Lens.le hw.lens hw2.lens h1;have hw4:HW Fs w0 (setNt {st2 with hp:=st2.hp.set i (.lrec l r' .exhausted j)} fn nt fr) ρ' _:=⟨hw3.lens,frSc_mono hcl hfr,hw3.sch,hw3.sck,hw3.kn,hw3.own,hw3.same,dsc_mono hcl hds⟩;have ha4:HA fr nt ρ' a':=ha.more hfr hds (Env.Le.agree hw.lens h1);have hL': ∀q,q<nl k→L' q=Lb q:=fun q hq=>(h2 q hq).trans (hL q hq)
    cases j with
    | none=>
     exact⟨k,rfl,m,by omega,_,ρ',L',hle.trans h1,hL',hw4,ha4,h5⟩
    | ret=>
     exact wpIn_mono (IHc m (by omega) ro .ret k _ ρ' L' a' _ h5 hw4 ha4 (hstkk.le h1)) fun e a w hq=>hq.mono (by omega) (hle.trans h1) hL'
    | exit id=>
     exact wpIn_mono (IHc m (by omega) ro (.exit id) k _ ρ' L' a' _ h5 hw4 ha4 (hstkk.le h1)) fun e a w hq=>hq.mono (by omega) (hle.trans h1) hL'
 intro e a1 w1 hq;obtain⟨k',hk,hat⟩:=hq;cases e with
 | normal=>cases hk;exact key a1 w1 hat
 | ret=>cases hk;exact key a1 w1 hat
 | exit id=>cases hk
 | goto l=>cases hk
 | panic l=>cases hk
 | outgrown=>cases hk
theorem lens_rec1{ρ:Env}{c:Cnt}(h:Lens ρ c)(l:Nat)(q:Loop):Lens (ρ.ext ⟨[l],[],[],[],[],[],[q]⟩) {c with b:=c.b+1,r:=c.r+1}:=
 ⟨by simp [Env.ext,h.b],by simp [Env.ext,h.v],by simp [Env.ext,h.i],by simp [Env.ext,h.a],by simp [Env.ext,h.bo],by simp [Env.ext,h.p],by simp [Env.ext,h.r]⟩
theorem lens_rec2{ρ:Env}{c:Cnt}(h:Lens ρ c)(d l:Nat)(q:Loop):Lens (ρ.ext ⟨[d,l],[],[],[],[],[],[q]⟩) {c with b:=c.b+2,r:=c.r+1}:=
 ⟨by simp [Env.ext,h.b],by simp [Env.ext,h.v],by simp [Env.ext,h.i],by simp [Env.ext,h.a],by simp [Env.ext,h.bo],by simp [Env.ext,h.p],by simp [Env.ext,h.r]⟩
theorem alloc_same(w:World)(o:Obj):Same w (w.alloc o):=⟨rfl,rfl,rfl,by simp⟩
theorem soundR_step(hT:checkT P C.T=true)(hFT:FTOk P C.FT){n:Nat}(IHc: ∀m,m<n→SoundC P C Post Fs w0 m):SoundR P C Post Fs w0 n:=by
 intro ro g ps x y k st ρ L a w hv hw ha hstk;cases n with
 | zero=>exact hv.elim
 | succ n=>
  have hn:n<n+1:=Nat.lt_succ_self n;simp only [run]at hv;split at hv
  case h_2=>exact hv.elim
  rename_i f caps hg;have hev:=opEval_spec ha.eval hg;split at hv
  ·exact hv.elim
  rename_i fd hfind;have hmem:=List.mem_of_find?_eq_some hfind;have hx1:=List.find?_some hfind;simp only [beq_iff_eq]at hx1;obtain⟨hf,hname⟩:=hFT _ hmem;simp only at hf hname;rw [hx1]at hf;split at hv
  ·exact hv.elim
  rename_i c hb;split at hv
  case isFalse=>exact hv.elim
  rename_i hcaps;have hname': ¬fd.name= "runtime.NumGoroutine" :=by simpa using hname
  have hres: ∀(l:Nat) (w1:World),(resolve a.eval (rangeCall g l) 0).run P w1= .ok {target:= .fn (.func f) (SV.vals ρ caps).toArray,args:= #[.func (.yield l) #[] #[]]} w1:=by
   intro l w1;simp only [resolve,hev,SV.val,Deferred.ofValue];simp [Act.eval]
  have hinv: ∀(l:Nat) (w1:World),(invoke (.fn (.func f) (SV.vals ρ caps).toArray) #[.func (.yield l) #[] #[]]).run P w1= .ok (.enter f (#[.func (.yield l) #[] #[]]++(SV.vals ρ caps).toArray)) w1:=by
   intro l w1;simp [invoke,callFunc,hf,hname',hb]
  have hro:=hstk.ro;split at hv
  ·
   rename_i har;rw [har]at hro;simp only at hro;subst hro;refine wpIn_rangeFunc fun fn _=>?_
   have e1:=run_enterLoop_outer (P:=P) (w:=w) fn a.tmps ps x y;refine⟨_,_,_,_,_,f,_,_,e1,hres _ _,fun _ _=>trivial,hinv _ _,fun h=>(by cases h),?_⟩;simp only [VC]at hv;have hv1:=hv w.heap.size (w.heap.size+1) {state:= .ready,pending:=none,fn,tmps:=a.tmps,params:=ps,assign:=x,body:=y,defers:=w.heap.size};generalize hq:({state:= .ready,pending:=none,fn,tmps:=a.tmps,params:=ps,assign:=x,body:=y,defers:=w.heap.size}:Loop)=q at hv1 e1 ⊢;have hle:=Env.le_ext ρ ⟨[w.heap.size,w.heap.size+1],[],[],[],[],[],[q]⟩;have hag:=Env.Le.agree hw.lens hle;have hl:=lens_rec2 hw.lens w.heap.size (w.heap.size+1) q;have hcl:=Lens.le hw.lens hl hle;have b1:(ρ.ext ⟨[w.heap.size,w.heap.size+1],[],[],[],[],[],[q]⟩).bv.getD st.cnt.b 0=w.heap.size:=by simp [Env.ext,←hw.lens.b]
   have b2:(ρ.ext ⟨[w.heap.size,w.heap.size+1],[],[],[],[],[],[q]⟩).bv.getD (st.cnt.b+1) 0=w.heap.size+1:=by simp [Env.ext,←hw.lens.b]
   have b3:(ρ.ext ⟨[w.heap.size,w.heap.size+1],[],[],[],[],[],[q]⟩).lr.getD st.cnt.r loop0=q:=by simp [Env.ext,←hw.lens.r]
   have hqr:({q with state:=RS.ready.st,pending:=Jump.none.code}:Loop)=q:=by subst hq;rfl
   have hps:q.params=ps:=by subst hq;rfl
   have hqa:q.assign=x:=by subst hq;rfl
   have hqb:q.body=y:=by subst hq;rfl
   have hqt:q.tmps=a.tmps:=by subst hq;rfl
   clear hq;generalize hρ1:ρ.ext ⟨[w.heap.size,w.heap.size+1],[],[],[],[],[],[q]⟩=ρ1 at hv1 hle hag hl b1 b2 b3;have hown1:Owns ((st.hp.map (Ck.den ρ1)++[dfrHP w.heap.size])++Fs) (w.alloc (.deferred (some []))):=by
    refine Owns.add (by rw [←Cks_sc hag hw.sch];exact hw.own) _ (fun k=>k=w.heap.size) (by simp) (fun k hk=>heap_alloc_old w _ hk) ⟨fun _=>Iff.rfl,heap_alloc_new w _⟩ (fun k hk=>by simp;omega)
   have hown2:Owns (((st.hp.map (Ck.den ρ1)++[dfrHP w.heap.size])++[recHP (w.heap.size+1) q])++Fs) ((w.alloc (.deferred (some []))).alloc (.loop q)):=by
    have hsz:(w.alloc (.deferred (some []))).heap.size=w.heap.size+1:=by simp
    refine Owns.add hown1 _ (fun k=>k=w.heap.size+1) (by simp) (fun k hk=>heap_alloc_old _ _ hk) ⟨fun _=>Iff.rfl,?_⟩ (fun k hk=>by simp;omega);have:=heap_alloc_new (w.alloc (.deferred (some []))) (.loop q)
    rwa [hsz]at this
   have hw1:HW Fs w0 {st with hp:=st.hp++[.dfr st.cnt.b]++[.lrec (st.cnt.b+1) st.cnt.r .ready .none],cnt:={st.cnt with b:=st.cnt.b+2,r:=st.cnt.r+1}} ρ1 ((w.alloc (.deferred (some []))).alloc (.loop q)):=by
    refine⟨hl,frSc_mono hcl hw.scf,?_,BEs_mono hcl hw.sck,fun b hb=>(BE.sc_prop hag (List.all_eq_true.1 hw.sck b hb)).1 (hw.kn b hb),?_,(hw.same.trans (alloc_same _ _)).trans (alloc_same _ _),dsc_mono hcl hw.scd⟩
    ·simp only [List.all_append,Bool.and_eq_true,List.all_cons,List.all_nil,Ck.sc,Nat.blt_eq];exact⟨⟨Cks_mono hcl hw.sch,by omega,trivial⟩,⟨by omega,by omega⟩,trivial⟩
    ·simp only [List.map_append,List.map_cons,List.map_nil,Ck.den,b1,b2,b3,hqr];exact hown2
   have hfr1:frSc {st.cnt with b:=st.cnt.b+2,r:=st.cnt.r+1} st.fr=true:=frSc_mono hcl hw.scf;have hds1:(MK.one st.cnt.b::st.nt.ds).all (MK.sc {st.cnt with b:=st.cnt.b+2,r:=st.cnt.r+1})=true:=by
    rw [List.all_cons,Bool.and_eq_true,MK.sc,Nat.blt_eq];exact⟨by show st.cnt.b<st.cnt.b+2;omega,dsc_mono hcl hw.scd⟩
   have ha1:=ha.more hw.scf hw.scd hag;have hstk1:Stk ρ1 (.rf (st.cnt.b+1) st.cnt.r st.fn ⟨st.nt.n,.one st.cnt.b::st.nt.ds⟩ st.fr ps x y fd::k) none:=by
    refine⟨fun l r fn nt fr ps' x' y' fd' hm=>?_,rfl⟩;rcases List.mem_cons.1 hm with hm | hm
    ·cases hm;refine⟨ρ1,_,hl,Env.Le.refl _,hfr1,by simp,by rw [b3,hps],by rw [b3,hqa],by rw [b3,hqb],?_⟩;rw [b3,hqt];exact⟨rfl,ha1.size,ha1.slots⟩
    ·exact(hstk.le hle).rf l r fn nt fr ps' x' y' fd' hm
   have hcall:=inline_rf (Lb:=L) hT hn IHc hf hb (a':={a with defers:=[{target:= .collected w.heap.size,args:= #[]}]++a.defers}) hv1
    (by simp only [SV.scL,SV.sc,Bool.and_eq_true,Nat.blt_eq];exact⟨by omega,SV.scL_mono hcl hcaps⟩) hw1 hstk1 (hstk.le hle) hfr1 hds1
    ⟨by rw [ha.defers,marks_sc hag hw.scd];simp only [marks,List.flatMap_cons,MK.blocks,List.map_cons,b1,List.singleton_append],ha1.size,ha1.slots⟩ hle (fun _ _=>rfl) (by simp)
   rw [b2]at hcall;have hargs:(SV.vals ρ1 (.yld (st.cnt.b+1)::caps)).toArray= #[.func (.yield (w.heap.size+1)) #[] #[]]++(SV.vals ρ caps).toArray:=by
    simp only [SV.vals,SV.val,b2,(SV.scL_val hag hcaps).1];simp
   rw [hargs]at hcall;exact hcall
  ·
   rename_i l0 har;rw [har]at hro;simp only at hro;obtain⟨ρ0,c0,k1,k2,k3,k4⟩:=hro;rw [(Env.Le.agree k1 k2).b l0 k3]at k4;split at hv
   case h_2=>exact hv.elim
   rename_i rc hrec;obtain⟨i0,r0,s0,j0⟩:=rc;have hblk:=rec_block hw hrec;refine wpIn_rangeFunc fun fn _=>?_
   have e1:=run_enterLoop_inner (P:=P) (w:=w) hblk fn a.tmps ps x y;rw [show(FW ro).round=ro from rfl,k4];refine⟨_,_,_,_,_,f,_,_,e1,hres _ _,fun _ _=>trivial,hinv _ _,fun h=>(by cases h),?_⟩;simp only [VC]at hv;have hv1:=hv w.heap.size {state:= .ready,pending:=none,fn,tmps:=a.tmps,params:=ps,assign:=x,body:=y,defers:=({ρ.lr.getD r0 loop0 with state:=s0.st,pending:=j0.code}:Loop).defers};generalize hq:({state:= .ready,pending:=none,fn,tmps:=a.tmps,params:=ps,assign:=x,body:=y,defers:=({ρ.lr.getD r0 loop0 with state:=s0.st,pending:=j0.code}:Loop).defers}:Loop)=q at hv1 e1 ⊢;have hle:=Env.le_ext ρ ⟨[w.heap.size],[],[],[],[],[],[q]⟩;have hag:=Env.Le.agree hw.lens hle;have hl:=lens_rec1 hw.lens w.heap.size q;have hcl:=Lens.le hw.lens hl hle;have b2:(ρ.ext ⟨[w.heap.size],[],[],[],[],[],[q]⟩).bv.getD st.cnt.b 0=w.heap.size:=by simp [Env.ext,←hw.lens.b]
   have b3:(ρ.ext ⟨[w.heap.size],[],[],[],[],[],[q]⟩).lr.getD st.cnt.r loop0=q:=by simp [Env.ext,←hw.lens.r]
   have hqr:({q with state:=RS.ready.st,pending:=Jump.none.code}:Loop)=q:=by subst hq;rfl
   have hps:q.params=ps:=by subst hq;rfl
   have hqa:q.assign=x:=by subst hq;rfl
   have hqb:q.body=y:=by subst hq;rfl
   have hqt:q.tmps=a.tmps:=by subst hq;rfl
   clear hq;generalize hρ1:ρ.ext ⟨[w.heap.size],[],[],[],[],[],[q]⟩=ρ1 at hv1 hle hag hl b2 b3;have hown2:Owns ((st.hp.map (Ck.den ρ1)++[recHP w.heap.size q])++Fs) (w.alloc (.loop q)):=by
    refine Owns.add (by rw [←Cks_sc hag hw.sch];exact hw.own) _ (fun k=>k=w.heap.size) (by simp) (fun k hk=>heap_alloc_old w _ hk) ⟨fun _=>Iff.rfl,heap_alloc_new w _⟩ (fun k hk=>by simp;omega)
   have hw1:HW Fs w0 {st with hp:=st.hp++[.lrec st.cnt.b st.cnt.r .ready .none],cnt:={st.cnt with b:=st.cnt.b+1,r:=st.cnt.r+1}} ρ1 (w.alloc (.loop q)):=by
    refine⟨hl,frSc_mono hcl hw.scf,?_,BEs_mono hcl hw.sck,fun b hb=>(BE.sc_prop hag (List.all_eq_true.1 hw.sck b hb)).1 (hw.kn b hb),?_,hw.same.trans (alloc_same _ _),dsc_mono hcl hw.scd⟩
    ·simp only [List.all_append,Bool.and_eq_true,List.all_cons,List.all_nil,Ck.sc,Nat.blt_eq];exact⟨Cks_mono hcl hw.sch,⟨by omega,by omega⟩,trivial⟩
    ·simp only [List.map_append,List.map_cons,List.map_nil,Ck.den,b2,b3,hqr];exact hown2
   have hfr1:frSc {st.cnt with b:=st.cnt.b+1,r:=st.cnt.r+1} st.fr=true:=frSc_mono hcl hw.scf;have ha1:=ha.more hw.scf hw.scd hag;have hstk1:Stk ρ1 (.rf st.cnt.b st.cnt.r st.fn st.nt st.fr ps x y fd::k) none:=by
    refine⟨fun l r fn nt fr ps' x' y' fd' hm=>?_,rfl⟩;rcases List.mem_cons.1 hm with hm | hm
    ·cases hm;refine⟨ρ1,_,hl,Env.Le.refl _,hfr1,by simp,by rw [b3,hps],by rw [b3,hqa],by rw [b3,hqb],?_⟩;rw [b3,hqt];exact⟨rfl,ha1.size,ha1.slots⟩
    ·exact(hstk.le hle).rf l r fn nt fr ps' x' y' fd' hm
   have hcall:=inline_rf (Lb:=L) (ro:=ro) hT hn IHc hf hb (a':={a with defers:=[]++a.defers}) hv1
    (by simp only [SV.scL,SV.sc,Bool.and_eq_true,Nat.blt_eq];exact⟨by omega,SV.scL_mono hcl hcaps⟩) hw1 hstk1 (hstk.le hle) hfr1 (dsc_mono hcl hw.scd)
    ⟨ha1.defers,ha1.size,ha1.slots⟩ hle (fun _ _=>rfl) (by simp)
   rw [b2]at hcall;have hargs:(SV.vals ρ1 (.yld st.cnt.b::caps)).toArray= #[.func (.yield w.heap.size) #[] #[]]++(SV.vals ρ caps).toArray:=by
    simp only [SV.vals,SV.val,b2,(SV.scL_val hag hcaps).1];simp
   rw [hargs]at hcall;rw [k4]at hcall;exact hcall
end
end Go.RX

namespace Go.RX
section
variable {P:Program} {C:Ctx} {Post:Value→List HP→Prop} {Fs:List HP} {w0:World}
theorem run_sound(hT:checkT P C.T=true)(hFT:FTOk P C.FT)(hPu:PureOk P C)(hm:P.follows .mixedOrders=true)(n:Nat):SoundC P C Post Fs w0 n∧SoundO P C Post Fs w0 n∧SoundD P C Post Fs w0 n:=by
 induction n using Nat.strongRecOn with
 | _ n ih=>exact⟨soundC_step hT (fun m hm=>(ih m hm).1) (fun m hm=>(ih m hm).2.1) (fun m hm=>(ih m hm).2.2) (soundR_step hT hFT fun m hm=>(ih m hm).1),soundO_step hT hFT hPu (fun m hm=>(ih m hm).1) (fun m hm=>(ih m hm).2.1),soundD_step hT hm (fun m hm=>(ih m hm).2.1)⟩
theorem Meets.of_run(hT:checkT P C.T=true)(hFT:FTOk P C.FT)(hm:P.follows .mixedOrders=true){f:Nat}{fd:Func}(hf:P.funcs[f]? =some fd){args:List SV}{hp:List Ck}{cnt:Cnt}{ρ:Env}(hl:Lens ρ cnt)
  (h:VC P Post (runF C f args hp cnt fd) ρ fun _=>LC.none) (hPu:PureOk P C:=by exact PureOk.none rfl):Meets P f (SV.vals ρ args) (hp.map (Ck.den ρ)) Post:=by
 intro w Fs hown;unfold runF at h;split at h
 case h_2=>exact h.elim
 rename_i c hb;split at h
 case isFalse=>exact h.elim
 rename_i hsc;simp only [Bool.and_eq_true]at hsc;have hw:HW Fs w {fn:=f,fr:=enumFrom 0 args,hp:=hp,cnt:=cnt,nt:=⟨fd.ntmps,[]⟩} ρ w:=
  ⟨hl,enum_sc args 0 hsc.1,hsc.2,rfl,fun b hb=>(by cases hb),hown,Same.refl w,rfl⟩
 have hwp:=(run_sound (Post:=Post) (Fs:=Fs) (w0:=w) hT hFT hPu hm 100000).1 none c _ _ ρ _ _ w h hw (enter_HA args fd.ntmps) ⟨fun l r fn nt fr ps x y fd hm=>(by simp at hm),rfl⟩;have key: ∀a' w',At P C Post Fs w 100000 [.top fd] ρ (fun _=>LC.none) a' w'→LeavesInM (FW none) 0 P fd a'.tmps (fun e w'=> ∃v hs,e= .returned v∧Post v hs∧Owns (hs++Fs) w'∧Same w w') a'.defers .returning w':=by
  intro a' w' ⟨m,hm,st',ρ',L',h1,h2,h3,h4,h5⟩;cases m with
  | zero=>exact h5.elim
  | succ m=>
   simp only [run]at h5;split at h5
   case h_2=>exact h5.elim
   rename_i st2 hlv;have hst2:st2.fr=st'.fr:=by
    unfold leaveSt at hlv;rw [Option.map_eq_some_iff]at hlv;obtain⟨hp',_,rfl⟩:=hlv;rfl
   split at h5
   ·rename_i v hv;refine leaveSt_sound hlv h3 h4 fun w2 hw2=>?_
    exact⟨_,resAll_sound hT hw2 (nt:=st'.nt) (by rw [hst2];exact h4) hv,_,_,rfl,h5,hw2.own,hw2.same⟩
   ·exact h5.elim
 have fin: ∀e a' w',QK P C Post Fs w 100000 [.top fd] ρ (fun _=>LC.none) e a' w'→bodyPostM (FW none) 0 P fd (fun e w'=> ∃v hs,e= .returned v∧Post v hs∧Owns (hs++Fs) w'∧Same w w') e a' w':=by
  intro e a' w' hq;obtain⟨k',hk,hat⟩:=hq;cases e with
  | normal=>cases hk;exact key a' w' hat
  | ret=>cases hk;exact key a' w' hat
  | exit id=>cases hk
  | goto l=>cases hk
  | panic l=>cases hk
  | outgrown=>cases hk
 have main:CallsIn (FW none) 0 P f (SV.vals ρ args).toArray w (fun e w'=> ∃v hs,e= .returned v∧Post v hs∧Owns (hs++Fs) w'∧Same w w'):=by
  refine callsIn_of_wp_marks hf hb trivial (wpIn_mono hwp ?_) rfl;exact fin
 have main':CallsIn Fence.wide 0 P f (SV.vals ρ args).toArray w (fun e w'=> ∃v hs,e= .returned v∧Post v hs∧Owns (hs++Fs) w'∧Same w w'):=main;exact callsIn_wide.1 main'
end
end Go.RX

namespace Go.RX
theorem FTOk.nil{P:Program}:FTOk P []:=fun x hx=>(by cases hx)
theorem FTOk.cons{P:Program}{FT:List (Nat×Func)}{f:Nat}{fd:Func}(h:P.funcs[f]? =some fd)(hn:(fd.name== "runtime.NumGoroutine")=false)(hr:FTOk P FT):FTOk P ((f,fd)::FT):=by
 intro x hx;rcases List.mem_cons.1 hx with rfl | hx
 ·exact⟨h,hn⟩
 ·exact hr x hx
theorem Meets.law{P:Program}{f:Nat}{args:List Value}{pre:List HP}(h:Meets P f args pre fun v _=>v= .bool true)(w:World)(hown:Owns (pre++[keptHP w.heap.size w]) w):
  Calls P f args.toArray w fun e w'=>e= .returned (.bool true)∧RowKit.Below w.heap.size w w':=by
 refine(h w _ hown).mono ?_;rintro e w' ⟨v,hs,rfl,rfl,⟨S,hS⟩,hsm⟩;refine⟨rfl,?_⟩;have:=(hS.at_ hs.length (keptHP w.heap.size w) (by simp)).1;exact⟨hsm.os,hsm.tape,hsm.output,hsm.size,fun k hk=>this.2 k hk⟩
end Go.RX

namespace Go.RX
open Go.Proofs
set_option maxRecDepth 100000
def tyP(n e:Nat):TI:=⟨n,.ptr e,1,8,[.nilp],[],[]⟩
def tyS(n e:Nat):TI:=⟨n,.slice e,1,24,[.nils],[],[]⟩
def tyF(n:Nat):TI:=⟨n,.func,1,8,[.nilf],[],[]⟩
def ze(k:IntKind):SV:= .int k (.lit 0)
def zg(k:IntKind)(n:Nat):SV:= .seg k n (.lit 0)
def zf:SV:= .bool (.lit false)
def TT:List TI:=[
 ⟨3,.int .i64,1,8,[ze .i64],[],[]⟩,
 ⟨4,.bool,1,1,[zf],[],[]⟩,
 ⟨5,.int .u8,1,1,[ze .u8],[],[]⟩,
 ⟨9,.str,1,16,[.str []],[],[]⟩,
 ⟨23,.struct [(5,0),(5,1)],2,2,[ze .u8,ze .u8],[(.int .u8,2)],[]⟩,
 tyS 24 40,
 ⟨27,.iface,1,16,[.nili],[],[]⟩,
 ⟨29,.int .u64,1,8,[ze .u64],[],[]⟩,
 tyP 30 141,
 ⟨33,.struct [(9,0)],1,16,[.str []],[(.str,1)],[]⟩,
 ⟨34,.int .u32,1,4,[ze .u32],[],[]⟩,
 ⟨36,.arr 16 5,16,16,[zg .u8 16],[(.int .u8,16)],[]⟩,
 ⟨38,.struct [(36,0),(29,16),(23,17),(29,19),(29,20)],21,48,[zg .u8 16,ze .u64,ze .u8,ze .u8,ze .u64,ze .u64],[(.int .u8,16),(.int .u64,1),(.int .u8,2),(.int .u64,2)],[]⟩,
 ⟨40,.struct [(5,0),(34,1),(29,2),(36,3),(29,19),(38,20),(23,41),(29,43),(29,44),(29,45)],46,120,[ze .u8,ze .u32,ze .u64,zg .u8 16,ze .u64,zg .u8 16,ze .u64,ze .u8,ze .u8,ze .u64,ze .u64,ze .u8,ze .u8,ze .u64,ze .u64,ze .u64],[(.int .u8,1),(.int .u32,1),(.int .u64,1),(.int .u8,16),(.int .u64,1),(.int .u8,16),(.int .u64,1),(.int .u8,2),(.int .u64,2),(.int .u8,2),(.int .u64,3)],[]⟩,
 tyS 41 74,
 ⟨42,.int .i64,1,8,[ze .i64],[],[]⟩,
 tyS 45 23,
 ⟨47,.struct [(36,0),(29,16),(45,17)],18,48,[zg .u8 16,ze .u64,.nils],[],[]⟩,
 ⟨51,.struct [(36,0),(29,16),(23,17),(29,19),(33,20)],21,56,[zg .u8 16,ze .u64,ze .u8,ze .u8,ze .u64,.str []],[(.int .u8,16),(.int .u64,1),(.int .u8,2),(.int .u64,1),(.str,1)],[]⟩,
 tyS 66 76,
 tyS 67 38,
 ⟨69,.struct [(23,0),(4,2),(47,3),(66,21),(67,22),(29,23)],24,112,[ze .u8,ze .u8,zf,zg .u8 16,ze .u64,.nils,.nils,.nils,ze .u64],[],[]⟩,
 ⟨74,.struct [(23,0),(51,2)],23,64,[ze .u8,ze .u8,zg .u8 16,ze .u64,ze .u8,ze .u8,ze .u64,.str []],[(.int .u8,18),(.int .u64,1),(.int .u8,2),(.int .u64,1),(.str,1)],[]⟩,
 ⟨76,.struct [(38,0),(4,21),(29,22)],23,64,[zg .u8 16,ze .u64,ze .u8,ze .u8,ze .u64,ze .u64,zf,ze .u64],[(.int .u8,16),(.int .u64,1),(.int .u8,2),(.int .u64,2),(.bool,1),(.int .u64,1)],[]⟩,
 tyS 84 89,
 tyP 85 99,
 tyS 87 33,
 ⟨89,.struct [(5,0),(5,1),(3,2),(5,3)],4,24,[ze .u8,ze .u8,ze .i64,ze .u8],[(.int .u8,2),(.int .i64,1),(.int .u8,1)],[]⟩,
 tyS 93 30,
 tyS 94 171,
 tyS 95 166,
 tyS 96 105,
 tyS 97 174,
 ⟨99,.struct [(27,0),(93,1),(47,2),(94,20),(87,21),(95,22),(96,23),(97,24)],25,208,[.nili,.nils,zg .u8 16,ze .u64,.nils,.nils,.nils,.nils,.nils,.nils],[],[]⟩,
 tyP 101 178,
 ⟨105,.struct [(29,0),(33,1)],2,24,[ze .u64,.str []],[(.int .u64,1),(.str,1)],[]⟩,
 tyF 106,
 tyP 110 194,
 tyS 111 200,
 ⟨117,.struct [(36,0),(29,16),(23,17),(29,19),(9,20)],21,56,[zg .u8 16,ze .u64,ze .u8,ze .u8,ze .u64,.str []],[(.int .u8,16),(.int .u64,1),(.int .u8,2),(.int .u64,1),(.str,1)],[]⟩,
 tyP 123 213,
 ⟨126,.int .u16,1,2,[ze .u16],[],[]⟩,
 tyS 127 5,
 ⟨135,.ptr 137,1,8,[.nilp],[],[("Fresh",254),("Hash",255),("Number",256),("Open",257),("Pair",258),("Seal",259)]⟩,
 ⟨137,.struct [(29,0)],1,8,[ze .u64],[(.int .u64,1)],[]⟩,
 tyS 138 144,
 tyS 139 51,
 ⟨141,.struct [(27,0),(23,1),(4,3),(47,4),(138,22),(139,23)],24,120,[.nili,ze .u8,ze .u8,zf,zg .u8 16,ze .u64,.nils,.nils,.nils],[],[]⟩,
 ⟨144,.struct [(51,0),(29,21),(4,22)],23,72,[zg .u8 16,ze .u64,ze .u8,ze .u8,ze .u64,.str [],ze .u64,zf],[(.int .u8,16),(.int .u64,1),(.int .u8,2),(.int .u64,1),(.str,1),(.int .u64,1),(.bool,1)],[]⟩,
 tyS 149 4,
 tyF 154,
 ⟨159,.int .u64,1,8,[ze .u64],[],[]⟩,
 tyS 166 29,
 ⟨171,.struct [(3,0),(3,1),(33,2)],3,32,[ze .i64,ze .i64,.str []],[(.int .i64,2),(.str,1)],[]⟩,
 ⟨174,.struct [(3,0),(29,1),(29,2),(29,3),(33,4),(33,5)],6,64,[ze .i64,ze .u64,ze .u64,ze .u64,.str [],.str []],[(.int .i64,1),(.int .u64,3),(.str,2)],[]⟩,
 ⟨176,.map 33 179,1,8,[.nilm],[],[]⟩,
 ⟨178,.struct [(176,0)],1,8,[.nilm],[],[]⟩,
 ⟨179,.struct [],0,0,[],[],[]⟩,
 tyF 187,
 ⟨190,.iface,1,16,[.nili],[],[]⟩,
 tyS 191 196,
 tyS 192 117,
 ⟨194,.struct [(190,0),(23,1),(4,3),(47,4),(191,22),(192,23)],24,120,[.nili,ze .u8,ze .u8,zf,zg .u8 16,ze .u64,.nils,.nils,.nils],[],[]⟩,
 ⟨196,.struct [(117,0),(29,21),(4,22)],23,72,[zg .u8 16,ze .u64,ze .u8,ze .u8,ze .u64,.str [],ze .u64,zf],[(.int .u8,16),(.int .u64,1),(.int .u8,2),(.int .u64,1),(.str,1),(.int .u64,1),(.bool,1)],[]⟩,
 ⟨200,.struct [(23,0),(117,2)],23,64,[ze .u8,ze .u8,zg .u8 16,ze .u64,ze .u8,ze .u8,ze .u64,.str []],[(.int .u8,18),(.int .u64,1),(.int .u8,2),(.int .u64,1),(.str,1)],[]⟩,
 tyF 202,
 ⟨205,.int .u8,1,1,[ze .u8],[],[]⟩,
 ⟨207,.struct [(205,0),(3,1),(3,2),(3,3),(3,4)],5,40,[ze .u8,ze .i64,ze .i64,ze .i64,ze .i64],[(.int .u8,1),(.int .i64,4)],[]⟩,
 ⟨210,.map 29 220,1,8,[.nilm],[],[]⟩,
 tyP 211 267,
 ⟨213,.struct [(110,0),(126,1),(3,2),(29,3),(211,4),(210,5)],6,48,[.nilp,ze .u16,ze .i64,ze .u64,.nilp,.nilm],[],[]⟩,
 ⟨217,.struct [(29,0),(29,1)],2,16,[ze .u64,ze .u64],[(.int .u64,2)],[]⟩,
 tyP 220 284,
 tyF 230,
 tyP 232 234,
 ⟨234,.struct [(232,0),(127,1)],2,32,[.nilp,.nils],[],[]⟩,
 tyF 241,
 tyP 300 5,
 tyS 325 3]
theorem okT:checkT Tryz.prog TT=true:=by kernel_rfl
def pairs(P:Program):List (Nat×Func):=P.funcs.toList.zipIdx.map fun x=>(x.2,x.1)
theorem FTOk.all{P:Program}(h:(P.funcs.toList.all fun f=> !(f.name== "runtime.NumGoroutine"))=true):FTOk P (pairs P):=by
 intro x hx;obtain⟨⟨f,i⟩,hy,rfl⟩:=List.mem_map.1 hx;have h2:=List.all_eq_true.1 h f (List.fst_mem_of_mem_zipIdx hy);refine⟨?_,by simpa using h2⟩;have h3:=(List.mk_mem_zipIdx_iff_getElem?).1 hy;rw [←h3];simp
noncomputable def FT:List (Nat×Func):=pairs Tryz.prog
theorem okFT:FTOk Tryz.prog FT:=FTOk.all (by kernel_rfl)
theorem okM:Tryz.prog.follows .mixedOrders=true:=by kernel_rfl
end Go.RX

namespace Go.RX
def Ent(a b:List HP):Prop:= ∀(w:World) (Fs:List HP),Owns (a++Fs) w→Owns (b++Fs) w
theorem Ent.refl(a:List HP):Ent a a:=fun _ _ h=>h
theorem Ent.trans{a b c:List HP}(h:Ent a b)(k:Ent b c):Ent a c:=fun w Fs o=>k w Fs (h w Fs o)
theorem sub_inj{α:Type}{a b:List α}(h:b.Sublist a): ∃f:Nat→Nat,(∀i j,f i=f j→i=j)∧∀(j:Nat) x,b[j]? =some x→a[f j]? =some x:=by
 induction h with
 | slnil=>exact⟨id,fun _ _ h=>h,fun _ _ h=>h⟩
 | cons x _ ih=>
  obtain⟨f,h1,h2⟩:=ih;exact⟨fun j=>f j+1,fun i j h=>h1 i j (by simpa using h),fun j y hy=>by simpa using h2 j y hy⟩
 | cons_cons x _ ih=>
  obtain⟨f,h1,h2⟩:=ih;refine⟨fun j=>match j with | 0=>0 | j+1=>f j+1,fun i j h=>?_,fun j y hy=>?_⟩
  ·cases i<;>cases j<;>simp at h ⊢
   exact h1 _ _ h
  ·cases j with
   | zero=>simpa using hy
   | succ j=>simpa using h2 j y (by simpa using hy)
theorem Owns.sub{a b:List HP}{w:World}(h:Owns a w)(hs:b.Sublist a):Owns b w:=by
 obtain⟨f,h1,h2⟩:=sub_inj hs;refine h.pick' (fun j=>some (f j)) (fun j x hx=> .inr ⟨f j,rfl,h2 j x hx⟩) ?_;intro j j' i hj hj' _ _;cases hj;simp only [Option.some.injEq]at hj';exact h1 _ _ hj'.symm
theorem Ent.sub{a b:List HP}(h:b.Sublist a):Ent a b:=fun _ _ o=>o.sub (List.Sublist.append h (List.Sublist.refl _))
theorem Ent.put{a:List HP}(i:Nat)(h0 h':HP)(hi:a[i]? =some h0)(hw:h'.wr=true→h0.wr=true)(hp: ∀w S,h0.p w S→∃S':Nat→Prop,(∀k,S' k→S k)∧h'.p w S'):Ent a (a.set i h'):=by
 intro w Fs ⟨S,hS⟩;have hlt:i<a.length:=(List.getElem?_eq_some_iff.1 hi).1;obtain⟨S',h1,h2⟩:=hp _ _ (hS.at_ i h0 (by rw [List.getElem?_append_left hlt];exact hi)).1;exact Owns.weaken hS i h0 h' hi hw S' h1 h2
theorem Meets.post{P:Program}{f:Nat}{args:List Value}{pre:List HP}{p q:Value→List HP→Prop}(h:Meets P f args pre p)(hpq: ∀v hs,p v hs→∃hs',Ent hs hs'∧q v hs'):Meets P f args pre q:=by
 intro w Fs o;refine(h w Fs o).mono ?_;rintro e w' ⟨v,hs,he,hp,ho,hs'⟩;obtain⟨hs2,h1,h2⟩:=hpq v hs hp;exact⟨v,hs2,he,h2,h1 _ _ ho,hs'⟩
theorem Meets.pre{P:Program}{f:Nat}{args:List Value}{pre pre':List HP}{p:Value→List HP→Prop}(h:Meets P f args pre' p)(he:Ent pre pre'):Meets P f args pre p:=
 fun w Fs o=>h w Fs (he _ _ o)
theorem sli_cut{w:World}{t s n k:Nat}{v:Value}{cs:List Value}{S:Nat→Prop}(h:(sliHP true t s v n cs).p w S)(hk:k≤n):
  (sliHP true t s (subSlice s v 0 k none) k (cs.take (k*s))).p w S:=by
 have hw:=SubAt.whole (ρ:=env0) (s:=s) (v:=v) (n:= .lit n) (by simpa [E.den] using sli_whole h);have hst:=hw.step ⟨.lit 0,.lit k,none⟩ (fun b hb=>by
  simp only [cutStep,eAdd]at hb;have: ∀(x y:Int),x≤y→∀b∈bLe' (.lit x) (.lit y),b.prop env0:=by
   intro x y hxy b hb;unfold bLe' at hb;split at hb
   ·cases hb
   ·simp [bLe,hxy]at hb
  rcases List.mem_append.1 hb with hb | hb
  ·rcases List.mem_append.1 hb with hb | hb
   ·exact this 0 0 (Int.le_refl _) b hb
   ·exact this 0 k (by omega) b hb
  ·exact this (0+k) n (by omega) b hb)
 have hsub:=hst.1;obtain⟨hown,hblk⟩:=h;simp only [if_true]at hown;have hx:subSlice s v (E.den env0 (.lit 0) 0).toNat (E.den env0 (.lit k) 0).toNat (Option.map (fun m=>(E.den env0 m 0).toNat) none)=subSlice s v 0 k none:=by simp [E.den]
 rw [hx]at hsub;have hln:((E.lit (n:Int)).den env0 0).toNat=n:=by simp [E.den]
 rw [←hln]at hown;obtain⟨o1,o2⟩:=ownsAt_part hsub (by simp [cutStep,eSub,E.den]) hown;rw [show((cutStep (.lit (n:Int)) ⟨.lit 0,.lit (n:Int),none⟩ ⟨.lit 0,.lit (k:Int),none⟩).1.lo.den env0 0).toNat=0 by simp [cutStep,eAdd,E.den],Nat.zero_mul,List.drop_zero]at o1;have hlk:((cutStep (.lit (n:Int)) ⟨.lit 0,.lit (n:Int),none⟩ ⟨.lit 0,.lit (k:Int),none⟩).1.len.den env0 0).toNat=k:=by simp [cutStep,eSub,E.den]
 rw [hlk]at o1;refine⟨?_,fun q=>?_⟩
 ·simp only [if_true];exact o1
 ·rw [o2,hblk q];simp
theorem sli_look{w:World}{t s n:Nat}{v:Value}{cs:List Value}{S:Nat→Prop}(h:(sliHP true t s v n cs).p w S):(sliHP false t s v n cs).p w (fun k=>S k∧0<n):=by
 obtain⟨hv,hl⟩:=sli_views h;refine⟨by simp only [Bool.false_eq_true,if_false];exact⟨hl,hv⟩,fun k=>?_⟩;show(S k∧0<n)↔_;rw [h.2 k];simp
end Go.RX

namespace Go.RX
theorem Meets.of_runE{P:Program}{C:Ctx}(hT:checkT P C.T=true)(hFT:FTOk P C.FT)(hm:P.follows .mixedOrders=true){f:Nat}{fd:Func}(hf:P.funcs[f]? =some fd){Post:Value→List HP→Prop}{args:List SV}{hp:List Ck}{cnt:Cnt}{ρ:Env}(hl:Lens ρ cnt)
  {g:F} {s:Prop} (e:runF C f args hp cnt fd=g) (hv:VC P Post g ρ (fun _=>LC.none)=s) (hs:s) (hPu:PureOk P C:=by exact PureOk.none rfl):Meets P f (SV.vals ρ args) (hp.map (Ck.den ρ)) Post:=by
 subst e;subst hv;exact Meets.of_run hT hFT hm hf hl hs hPu
end Go.RX
