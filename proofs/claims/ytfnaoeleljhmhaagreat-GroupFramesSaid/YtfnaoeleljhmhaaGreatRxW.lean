/- A reflective symbolic executor, part 23: one operation, in the calculus. -/
import Derived.Test.YtfnaoeleljhmhaaGreatRxV

namespace Go.RX
def FW(ro:Option Nat):Fence:={Fence.wide with round:=ro}
section
variable {P:Program} {C:Ctx} {Post:Value→List HP→Prop} {Fs:List HP} {w0:World} {ρ:Env} {a:Act} {w:World}
def effF(e:Eff)(r:F):F:=
 match e with
 | .new _=> .allB r
 | .app .. => .allV r
 | .own .. => .allV r
 | .lend .. => .allV r
 | _=>r
theorem Reads_of{st:St}(S:Nat→Nat→Prop)(hS:Sep (st.hp.map (Ck.den ρ)++Fs) S w)(rd:List Nat):Reads st.hp ρ w S rd:=by
 intro j _ ck hj;refine(hS.at_ j (ck.den ρ) ?_).1;rw [List.getElem?_append_left (by simpa using (List.getElem?_eq_some_iff.1 hj).1),List.getElem?_map,hj];rfl
theorem applyEff_rest(st:St)(e:Eff):(applyEff st e).fr=st.fr∧(applyEff st e).nt=st.nt∧(applyEff st e).fn=st.fn∧(applyEff st e).known=st.known∧(applyEff st e).cnt=e.grow st.cnt:=by
 cases e<;>exact⟨rfl,rfl,rfl,rfl,rfl⟩
theorem did_step{st:St}{res:Res}{S:Nat→Nat→Prop}{run:Result Next}{r:F}{L:Nat→LC}(hw:HW Fs w0 st ρ w)(hS:Sep (st.hp.map (Ck.den ρ)++Fs) S w)
  (hd:Did P ρ w st.hp S st.cnt.b st.cnt.v run res) (hsc:res.sc st.cnt=true) (hvc: ∀b∈res.vcs,b.prop ρ) (hv:VC P Post (effF res.eff r) ρ L):
  ∃u w' ρ',(run= .ok (.value u) w'∨(u=undef∧run= .ok .skip w'))∧Env.Le ρ ρ'∧HW Fs w0 {applyEff st res.eff with known:=more res.vcs st.known} ρ' w'∧
   u=res.val.val ρ'∧res.val.sc (res.eff.grow st.cnt)=true∧VC P Post r ρ' L:=by
 obtain⟨rv,rvc,rrd,re⟩:=res;simp only [Res.sc,Bool.and_eq_true]at hsc;obtain⟨⟨hs1,hs2⟩,hs3⟩:=hsc;have hkn: ∀b∈more rvc st.known,b.prop ρ:=fun b hb=>(List.mem_append.1 hb).elim (fun h=>hvc b (List.mem_filter.1 h).1) (hw.kn b)
 have hsck:(more rvc st.known).all (BE.sc st.cnt)=true:=by
  unfold more;rw [List.all_append,hw.sck,Bool.and_true];exact List.all_eq_true.2 fun x hx=>List.all_eq_true.1 hs2 x (List.mem_filter.1 hx).1
 cases re with
 | none=>
  refine⟨rv.val ρ,w,ρ,.inl hd,Env.Le.refl _,⟨hw.lens,hw.scf,hw.sch,hsck,hkn,hw.own,hw.same,hw.scd⟩,rfl,hs1,hv⟩
 | new ck=>
  obtain⟨w',hpr,hnd,hr,hsm,hsz,hk,hp⟩:=hd;have hle:=Env.le_addB ρ w.heap.size;have hag:=Env.Le.agree hw.lens hle;have hcl:st.cnt.le {st.cnt with b:=st.cnt.b+1}:=by constructor<;>simp
  refine⟨_,w',ρ.addB w.heap.size,.inl hr,hle,⟨hw.lens.addB _,frSc_mono hcl hw.scf,?_,BEs_mono hcl hsck,fun b hb=>?_,?_,hw.same.trans hsm,dsc_mono hcl hw.scd⟩,rfl,hs1,hv _⟩
  ·simp only [applyEff,List.all_append,Bool.and_eq_true];refine⟨Cks_mono hcl hw.sch,?_⟩;simp only [List.all_cons,List.all_nil,Bool.and_true];unfold newDen at hnd;split at hnd
   ·split at hnd
    ·rename_i hb;subst hb;simp only [Eff.sc]at hs3;simp only [Ck.sc,Bool.and_eq_true,Nat.blt_eq];exact⟨Nat.lt_succ_self _,SV.scL_mono hcl hs3⟩
    ·cases hnd
   ·split at hnd
    ·rename_i hb;subst hb;simp only [Eff.sc,Bool.and_eq_true]at hs3;simp only [Ck.sc,Bool.and_eq_true,Nat.blt_eq];exact⟨⟨⟨Nat.lt_succ_self _,SV.scL_mono hcl hs3.1.1⟩,E.sc_mono hcl hs3.1.2⟩,cols_mono hcl hs3.2⟩
    ·cases hnd
   ·split at hnd
    ·rename_i hb;subst hb;simp only [Eff.sc,Bool.and_eq_true]at hs3;simp only [Ck.sc,Bool.and_eq_true,Nat.blt_eq];exact⟨⟨Nat.lt_succ_self _,SV.scL_mono hcl hs3.1⟩,List.all_eq_true.2 fun e he=>SV.scL_mono hcl (List.all_eq_true.1 hs3.2 e he)⟩
    ·cases hnd
   ·split at hnd
    ·rename_i hb;subst hb;simp only [Eff.sc,Bool.and_eq_true]at hs3;simp only [Ck.sc,Bool.and_eq_true,Nat.blt_eq];exact⟨⟨Nat.lt_succ_self _,E.sc_mono hcl hs3.1⟩,E.sc_mono hcl hs3.2⟩
    ·cases hnd
   ·split at hnd
    ·rename_i hb;subst hb;simp only [Ck.sc,Nat.blt_eq];exact Nat.lt_succ_self _
    ·cases hnd
   ·split at hnd
    ·rename_i hb;subst hb;simp only [Eff.sc,Nat.blt_eq]at hs3;simp only [Ck.sc,Bool.and_eq_true,Nat.blt_eq];exact⟨Nat.lt_succ_self _,Nat.lt_succ_of_lt hs3⟩
    ·cases hnd
   ·cases hnd
  ·exact(BE.sc_prop hag (List.all_eq_true.1 hsck b hb)).1 (hkn b hb)
  ·simp only [applyEff,List.map_append];refine Owns.add (S':=fun k=>k=w.heap.size) ?_ _ (by omega) hk ?_ (fun k hk=>by omega)
   ·rw [←Cks_sc hag hw.sch];exact hw.own
   ·unfold newDen at hnd;split at hnd
    ·split at hnd
     ·rename_i cs hb;subst hb;cases hnd;simp only [Eff.sc]at hs3;simp only [Ck.den,getD_addB' ρ _ hw.lens.b];have:SV.cellsL ρ cs=SV.cellsL (ρ.addB w.heap.size) cs:=(SV.scL_val hag hs3).2;rw [←this];exact hp
     ·cases hnd
    ·split at hnd
     ·rename_i kl ka va z has cols hb;subst hb;cases hnd;simp only [Eff.sc,Bool.and_eq_true]at hs3;have hc:cols.map (Col.cells ρ)=cols.map (Col.cells (ρ.addB w.heap.size)):=List.map_congr_left fun k hk=>Col.sc_cells hag (List.all_eq_true.1 hs3.2 k hk)
      simp only [Ck.den,getD_addB' ρ _ hw.lens.b];rw [←(SV.scL_val hag hs3.1.1).2,←E.sc_den hag hs3.1.2,←hc];exact hp
     ·cases hnd
    ·split at hnd
     ·rename_i kl ka va z es hb;subst hb;cases hnd;simp only [Eff.sc,Bool.and_eq_true]at hs3;have hr:(fun i=>SV.cellsL ρ (rowL es z i))=fun i=>SV.cellsL (ρ.addB w.heap.size) (rowL es z i):=funext fun i=>(SV.scL_val hag (rowL_sc hs3.1 hs3.2 i)).2
      rw [Ck.den_mapl,getD_addB' ρ _ hw.lens.b,←(SV.scL_val hag hs3.1).2,←hr];exact hp
     ·cases hnd
    ·split at hnd
     ·rename_i t e n a hb;subst hb;cases hnd;simp only [Eff.sc,Bool.and_eq_true]at hs3;simp only [Ck.den,getD_addB' ρ _ hw.lens.b];rw [←E.sc_den hag hs3.1,←E.sc_den hag hs3.2];exact hp
     ·cases hnd
    ·split at hnd
     ·rename_i hb;subst hb;cases hnd;simp only [Ck.den,getD_addB' ρ _ hw.lens.b];exact hp
     ·cases hnd
    ·split at hnd
     ·rename_i b m hb;subst hb;cases hnd;simp only [Eff.sc,Nat.blt_eq]at hs3;simp only [Ck.den,getD_addB' ρ _ hw.lens.b];rw [←hag.b m hs3];exact hp
     ·cases hnd
    ·cases hnd
 | set j ck=>
  obtain⟨w',hr,hW⟩:=hd;simp only at hr;have hr:run= .ok (.value (rv.val ρ)) w'∨(rv.val ρ=undef∧run= .ok .skip w'):=by
   rcases hr with hr | ⟨rfl,hr⟩
   ·exact .inl hr
   ·exact .inr ⟨rfl,hr⟩
  obtain⟨ck0,hj,hwr⟩:=hW.old;have hjd:(st.hp.map (Ck.den ρ))[j]? =some (ck0.den ρ):=by rw [List.getElem?_map,hj];rfl
  refine⟨rv.val ρ,w',ρ,hr,Env.Le.refl _,⟨hw.lens,hw.scf,?_,hsck,hkn,?_,hw.same.trans hW.same,hw.scd⟩,rfl,hs1,hv⟩
  ·refine List.all_eq_true.2 fun q hq=>?_
   rcases List.mem_or_eq_of_mem_set hq with hq | rfl
   ·exact List.all_eq_true.1 hw.sch q hq
   ·exact hs3
  ·simp only [applyEff,List.map_set];exact Owns.step hS j _ _ hjd hwr (S j) (by rw [hW.size];exact Nat.le_refl _) (fun k _ hk=>hW.keep k hk) hW.now (fun k hk=> .inl hk)
 | app j ck=>
  obtain⟨t,s,n,cols,v,w',S',rfl,hval,hr,h1,⟨ck0,hj,hwr⟩,hsm,hk,hp,hsub⟩:=hd;simp only at hval;subst hval;have hle:=Env.le_addV ρ ⟨v,h1⟩;have hag:=Env.Le.agree hw.lens hle;have hcl:st.cnt.le {st.cnt with v:=st.cnt.v+1}:=by constructor<;>simp
  simp only [Eff.sc,Bool.and_eq_true]at hs3;have hjd:(st.hp.map (Ck.den (ρ.addV ⟨v,h1⟩)))[j]? =some (ck0.den ρ):=by rw [←Cks_sc hag hw.sch,List.getElem?_map,hj];rfl
  refine⟨v,w',ρ.addV ⟨v,h1⟩,.inl hr,hle,⟨hw.lens.addV _,frSc_mono hcl hw.scf,?_,BEs_mono hcl hsck,fun b hb=>?_,?_,hw.same.trans hsm,dsc_mono hcl hw.scd⟩,?_,hs1,hv _⟩
  ·refine List.all_eq_true.2 fun q hq=>?_
   rcases List.mem_or_eq_of_mem_set hq with hq | rfl
   ·exact Ck.sc_mono hcl (List.all_eq_true.1 hw.sch q hq)
   ·simp only [applyEff,Ck.sc,Bool.and_eq_true,Nat.blt_eq];exact⟨⟨Nat.lt_succ_self _,E.sc_mono hcl hs3.1⟩,cols_mono hcl hs3.2⟩
  ·exact(BE.sc_prop hag (List.all_eq_true.1 hsck b hb)).1 (hkn b hb)
  ·simp only [applyEff,List.map_set];refine Owns.step (S:=S) ?_ j _ _ hjd hwr S' hsm.size hk ?_ hsub
   ·rw [←Cks_sc hag hw.sch];exact hS
   ·simp only [Ck.den,getD_addV ρ _ hw.lens.v];rw [←E.sc_den hag hs3.1,←cols_sc hag hs3.2];exact hp
  ·simp only [SV.val,getD_addV ρ _ hw.lens.v]
 | own ck=>
  obtain⟨t,s,n,cols,v,w',S',rfl,hval,hr,h1,hsm,hk,hp,hsub⟩:=hd;simp only at hval;subst hval;have hle:=Env.le_addV ρ ⟨v,h1⟩;have hag:=Env.Le.agree hw.lens hle;have hcl:st.cnt.le {st.cnt with v:=st.cnt.v+1}:=by constructor<;>simp
  simp only [Eff.sc,Bool.and_eq_true]at hs3;refine⟨v,w',ρ.addV ⟨v,h1⟩,.inl hr,hle,⟨hw.lens.addV _,frSc_mono hcl hw.scf,?_,BEs_mono hcl hsck,fun b hb=>?_,?_,hw.same.trans hsm,dsc_mono hcl hw.scd⟩,?_,hs1,hv _⟩
  ·simp only [applyEff,List.all_append,Bool.and_eq_true];refine⟨Cks_mono hcl hw.sch,?_⟩;simp only [List.all_cons,List.all_nil,Ck.sc,Bool.and_true,Bool.and_eq_true,Nat.blt_eq];exact⟨⟨Nat.lt_succ_self _,E.sc_mono hcl hs3.1⟩,cols_mono hcl hs3.2⟩
  ·exact(BE.sc_prop hag (List.all_eq_true.1 hsck b hb)).1 (hkn b hb)
  ·simp only [applyEff,List.map_append];refine Owns.add (S':=S') ?_ _ hsm.size hk ?_ hsub
   ·rw [←Cks_sc hag hw.sch];exact hw.own
   ·simp only [Ck.den,getD_addV ρ _ hw.lens.v];rw [←E.sc_den hag hs3.1,←cols_sc hag hs3.2];exact hp
  ·simp only [SV.val,getD_addV ρ _ hw.lens.v]
 | lend ck=>
  obtain⟨t,s,n,cols,v,w',S',rfl,hval,hr,h1,hsm,hk,hp,hsub⟩:=hd;simp only at hval;subst hval;have hle:=Env.le_addV ρ ⟨v,h1⟩;have hag:=Env.Le.agree hw.lens hle;have hcl:st.cnt.le {st.cnt with v:=st.cnt.v+1}:=by constructor<;>simp
  simp only [Eff.sc,Bool.and_eq_true]at hs3;refine⟨v,w',ρ.addV ⟨v,h1⟩,.inl hr,hle,⟨hw.lens.addV _,frSc_mono hcl hw.scf,?_,BEs_mono hcl hsck,fun b hb=>?_,?_,hw.same.trans hsm,dsc_mono hcl hw.scd⟩,?_,hs1,hv _⟩
  ·simp only [applyEff,List.all_append,Bool.and_eq_true];refine⟨Cks_mono hcl hw.sch,?_⟩;simp only [List.all_cons,List.all_nil,Ck.sc,Bool.and_true,Bool.and_eq_true,Nat.blt_eq];exact⟨⟨Nat.lt_succ_self _,E.sc_mono hcl hs3.1⟩,cols_mono hcl hs3.2⟩
  ·exact(BE.sc_prop hag (List.all_eq_true.1 hsck b hb)).1 (hkn b hb)
  ·simp only [applyEff,List.map_append];refine Owns.add (S':=S') ?_ _ hsm.size hk ?_ hsub
   ·rw [←Cks_sc hag hw.sch];exact hw.own
   ·simp only [Ck.den,getD_addV ρ _ hw.lens.v];rw [←E.sc_den hag hs3.1,←cols_sc hag hs3.2];exact hp
  ·simp only [SV.val,getD_addV ρ _ hw.lens.v]
theorem stepVal_spec{g:Option BE}{st:St}{o:Oper}{res:Res}(h:stepVal C g st o=some res):
  symOp C.T (look? g st.known st.fr) st.hp st.cnt.b st.cnt.v o=some res∧res.sc st.cnt=true:=by
 unfold stepVal at h;split at h
 ·rename_i r hr;split at h
  ·rename_i hs;cases h;exact⟨hr,hs⟩
  ·cases h
 ·cases h
theorem stepQ_spec{g:Option BE}{st:St}{o:Oper}{res:Res}(h:stepQ C g st o=some res):
  (g=some (.lit false)∧res={val:= .undef})∨stepVal C g st o=some res:=by
 unfold stepQ at h;split at h
 ·cases h;exact .inl ⟨rfl,rfl⟩
 ·exact .inr h
theorem not_defer{T:List TI}{lk:Nat→Option SV}{hp:List Ck}{nb nv:Nat}{o:Oper}{res:Res}(h:symOp T lk hp nb nv o=some res): ∀c,o.op≠ .defer c:=by
 intro c hc;unfold symOp at h;rw [hc]at h;cases h
theorem wpIn_of_run{ro:Option Nat}{o:Oper}{K:Act→World→Prop}{Q:Exit→Act→World→Prop}{u:Value}{w':World}(hnd: ∀c,o.op≠ .defer c)
  (hr:(execOp a.eval o).run P w= .ok (.value u) w'∨(u=undef∧(execOp a.eval o).run P w= .ok .skip w')) (hk:K (a.put o.dst u) w'):o.wpIn (FW ro) 0 P a w K Q:=by
 refine⟨fun f _=>trivial,?_⟩;rw [Oper.semAt_eq _ _ _ hnd];rcases hr with hr | ⟨rfl,hr⟩
 ·rw [hr];exact hk
 ·rw [hr];exact hk
theorem guard_none_wp{ro:Option Nat}{o:Oper}{K:Act→World→Prop}{Q:Exit→Act→World→Prop}(h:({o with guard:=none}:Oper).wpIn (FW ro) 0 P a w K Q):o.wpIn (FW ro) 0 P a w K Q:=h
end
end Go.RX
