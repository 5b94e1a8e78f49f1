/- A reflective symbolic executor, part 25e: the statement that ranges over a function. · A reflective symbolic executor, part 26: the theorem. · A reflective symbolic executor, part 27: formulas that hold at sight; what a law's statement asks. · The types and functions of the seat's program, for the executor; printed by a program of ours (wip/tools/genctx.lean). · What library functions are known to do, at sight: for the executor. -/
import Derived.Test.YtgaabcinjbjbgaaDoorRxYd
import Derived.Below
import Derived.Test.YtgaabcinjbjbgaaDoorProg
import Derived.KernelRfl
import Derived.Test.YtgaabcinjbjbgaaDoorRxD

namespace Go.RX
section
variable {P : Program} {C : Ctx} {Post : Value → List HP → Prop} {Fs : List HP} {w0 : World}
theorem inline_rf (hT : checkT P C.T = true) {n N : Nat} (hnN : n < N) (IHc : ∀ m, m < N → SoundC P C Post Fs w0 m) {ro : Option Nat} {c : Code} {fd : Func} {f : Nat} (hf : P.funcs[f]? = some fd) (hb : fd.body = some c) {k : List KI} {st : St} {ρ ρb : Env} {L Lb : Nat → LC} {w : World}
    {az : List SV} {l r fn : Nat} {nt : NT} {fr : List (Nat × SV)} {ps : Array Tmp} {x y : Code} {a' : Act}
    (hv : VC P Post (run C n (.code c :: .rf l r fn nt fr ps x y fd :: k) (setNt st f ⟨fd.ntmps, []⟩ (enumFrom 0 az))) ρ L) (hsc : SV.scL st.cnt az = true) (hw : HW Fs w0 st ρ w)
    (hstk : Stk ρ (.rf l r fn nt fr ps x y fd :: k) none) (hstkk : Stk ρ k ro) (hfr : frSc st.cnt fr = true) (hds : nt.ds.all (MK.sc st.cnt) = true) (ha : HA fr nt ρ a') (hle : Env.Le ρb ρ) (hL : ∀ j, j < nl k → L j = Lb j) (hl : l < st.cnt.b) :
    CallsIn (FW none) 0 P f (SV.vals ρ az).toArray w (rangePost (FW ro) 0 P (ρ.bv.getD l 0) (QK P C Post Fs w0 N k ρb Lb) a') := by
  refine callsIn_of_wp_marks hf hb trivial ?_ rfl
  have hw' : HW Fs w0 (setNt st f ⟨fd.ntmps, []⟩ (enumFrom 0 az)) ρ w := ⟨hw.lens, enum_sc az 0 hsc, hw.sch, hw.sck, hw.kn, hw.own, hw.same, rfl⟩
  refine wpIn_mono (IHc n hnN none c _ _ ρ L _ w hv hw' (enter_HA az fd.ntmps) hstk) ?_
  have key : ∀ a1 w1, At P C Post Fs w0 n (.rf l r fn nt fr ps x y fd :: k) ρ L a1 w1 → LeavesInM (FW none) 0 P fd a1.tmps (rangePost (FW ro) 0 P (ρ.bv.getD l 0) (QK P C Post Fs w0 N k ρb Lb) a') a1.defers .returning w1 := by
    intro a1 w1 ⟨m, hm, st', ρ', L', h1, h2, h3, h4, h5⟩
    cases m with
    | zero => exact h5.elim
    | succ m =>
      simp only [run] at h5
      split at h5
      case h_2 => exact h5.elim
      rename_i st2 hlv
      have hst2 : st2.fr = st'.fr ∧ st2.nt = st'.nt ∧ st2.cnt = st'.cnt := by
        unfold leaveSt at hlv
        rw [Option.map_eq_some_iff] at hlv
        obtain ⟨hp', _, rfl⟩ := hlv
        exact ⟨rfl, rfl, rfl⟩
      split at h5
      case h_2 => exact h5.elim
      rename_i v i r' s j hv hrec
      split at h5
      · exact h5.elim
      · rename_i hbusy
        refine leaveSt_sound hlv h3 h4 fun w2 hw2 => ?_
        refine ⟨_, resAll_sound hT hw2 (nt := st'.nt) (by rw [hst2.1]; exact h4) hv, ?_⟩
        have hblk := rec_block hw2 hrec
        have hbv : ρ'.bv.getD l 0 = ρ.bv.getD l 0 := ((Env.Le.agree hw.lens h1).b l hl).symm
        rw [hbv] at hblk
        refine ⟨j.code, _, run_endLoop hblk (by cases s <;> first | (simp [RS.st]; done) | exact absurd rfl hbusy), ?_⟩
        have hw3 := rec_set hw2 hrec .exhausted j
        rw [hbv] at hw3
        have hcl := Lens.le hw.lens hw2.lens h1
        have hw4 : HW Fs w0 (setNt { st2 with hp := st2.hp.set i (.lrec l r' .exhausted j) } fn nt fr) ρ' _ := ⟨hw3.lens, frSc_mono hcl hfr, hw3.sch, hw3.sck, hw3.kn, hw3.own, hw3.same, dsc_mono hcl hds⟩
        have ha4 : HA fr nt ρ' a' := ha.more hfr hds (Env.Le.agree hw.lens h1)
        have hL' : ∀ q, q < nl k → L' q = Lb q := fun q hq => (h2 q hq).trans (hL q hq)
        cases j with
        | none =>
          exact ⟨k, rfl, m, by omega, _, ρ', L', hle.trans h1, hL', hw4, ha4, h5⟩
        | ret =>
          exact wpIn_mono (IHc m (by omega) ro .ret k _ ρ' L' a' _ h5 hw4 ha4 (hstkk.le h1)) fun e a w hq => hq.mono (by omega) (hle.trans h1) hL'
        | exit id =>
          exact wpIn_mono (IHc m (by omega) ro (.exit id) k _ ρ' L' a' _ h5 hw4 ha4 (hstkk.le h1)) fun e a w hq => hq.mono (by omega) (hle.trans h1) hL'
  intro e a1 w1 hq
  obtain ⟨k', hk, hat⟩ := hq
  cases e with
  | normal => cases hk; exact key a1 w1 hat
  | ret => cases hk; exact key a1 w1 hat
  | exit id => cases hk
  | goto l => cases hk
  | panic l => cases hk
  | outgrown => cases hk
theorem lens_rec1 {ρ : Env} {c : Cnt} (h : Lens ρ c) (l : Nat) (q : Loop) : Lens (ρ.ext ⟨[l], [], [], [], [], [], [q]⟩) { c with b := c.b + 1, r := c.r + 1 } :=
  ⟨by simp [Env.ext, h.b], by simp [Env.ext, h.v], by simp [Env.ext, h.i], by simp [Env.ext, h.a], by simp [Env.ext, h.bo], by simp [Env.ext, h.p], by simp [Env.ext, h.r]⟩
theorem lens_rec2 {ρ : Env} {c : Cnt} (h : Lens ρ c) (d l : Nat) (q : Loop) : Lens (ρ.ext ⟨[d, l], [], [], [], [], [], [q]⟩) { c with b := c.b + 2, r := c.r + 1 } :=
  ⟨by simp [Env.ext, h.b], by simp [Env.ext, h.v], by simp [Env.ext, h.i], by simp [Env.ext, h.a], by simp [Env.ext, h.bo], by simp [Env.ext, h.p], by simp [Env.ext, h.r]⟩
theorem alloc_same (w : World) (o : Obj) : Same w (w.alloc o) := ⟨rfl, rfl, rfl, by simp⟩
theorem soundR_step (hT : checkT P C.T = true) (hFT : FTOk P C.FT) {n : Nat} (IHc : ∀ m, m < n → SoundC P C Post Fs w0 m) : SoundR P C Post Fs w0 n := by
  intro ro g ps x y k st ρ L a w hv hw ha hstk
  cases n with
  | zero => exact hv.elim
  | succ n =>
    have hn : n < n + 1 := Nat.lt_succ_self n
    simp only [run] at hv
    split at hv
    case h_2 => exact hv.elim
    rename_i f caps hg
    have hev := opEval_spec ha.eval hg
    split at hv
    · exact hv.elim
    rename_i fd hfind
    have hmem := List.mem_of_find?_eq_some hfind
    have hx1 := List.find?_some hfind
    simp only [beq_iff_eq] at hx1
    obtain ⟨hf, hname⟩ := hFT _ hmem
    simp only at hf hname
    rw [hx1] at hf
    split at hv
    · exact hv.elim
    rename_i c hb
    split at hv
    case isFalse => exact hv.elim
    rename_i hcaps
    have hname' : ¬ fd.name = "runtime.NumGoroutine" := by simpa using hname
    have hres : ∀ (l : Nat) (w1 : World), (resolve a.eval (rangeCall g l) 0).run P w1 = .ok { target := .fn (.func f) (SV.vals ρ caps).toArray, args := #[.func (.yield l) #[] #[]] } w1 := by
      intro l w1
      simp only [resolve, hev, SV.val, Deferred.ofValue]
      simp [Act.eval]
    have hinv : ∀ (l : Nat) (w1 : World), (invoke (.fn (.func f) (SV.vals ρ caps).toArray) #[.func (.yield l) #[] #[]]).run P w1 = .ok (.enter f (#[.func (.yield l) #[] #[]] ++ (SV.vals ρ caps).toArray)) w1 := by
      intro l w1
      simp [invoke, callFunc, hf, hname', hb]
    have hro := hstk.ro
    split at hv
    · -- an outermost loop
      rename_i har
      rw [har] at hro
      simp only at hro
      subst hro
      refine wpIn_rangeFunc fun fn _ => ?_
      have e1 := run_enterLoop_outer (P := P) (w := w) fn a.tmps ps x y
      refine ⟨_, _, _, _, _, f, _, _, e1, hres _ _, fun _ _ => trivial, hinv _ _, fun h => (by cases h), ?_⟩
      simp only [VC] at hv
      have hv1 := hv w.heap.size (w.heap.size + 1) { state := .ready, pending := none, fn, tmps := a.tmps, params := ps, assign := x, body := y, defers := w.heap.size }
      generalize hq : ({ state := .ready, pending := none, fn, tmps := a.tmps, params := ps, assign := x, body := y, defers := w.heap.size } : Loop) = q at hv1 e1 ⊢
      have hle := Env.le_ext ρ ⟨[w.heap.size, w.heap.size + 1], [], [], [], [], [], [q]⟩
      have hag := Env.Le.agree hw.lens hle
      have hl := lens_rec2 hw.lens w.heap.size (w.heap.size + 1) q
      have hcl := Lens.le hw.lens hl hle
      have b1 : (ρ.ext ⟨[w.heap.size, w.heap.size + 1], [], [], [], [], [], [q]⟩).bv.getD st.cnt.b 0 = w.heap.size := by simp [Env.ext, ← hw.lens.b]
      have b2 : (ρ.ext ⟨[w.heap.size, w.heap.size + 1], [], [], [], [], [], [q]⟩).bv.getD (st.cnt.b + 1) 0 = w.heap.size + 1 := by simp [Env.ext, ← hw.lens.b]
      have b3 : (ρ.ext ⟨[w.heap.size, w.heap.size + 1], [], [], [], [], [], [q]⟩).lr.getD st.cnt.r loop0 = q := by simp [Env.ext, ← hw.lens.r]
      have hqr : ({ q with state := RS.ready.st, pending := Jump.none.code } : Loop) = q := by subst hq; rfl
      have hps : q.params = ps := by subst hq; rfl
      have hqa : q.assign = x := by subst hq; rfl
      have hqb : q.body = y := by subst hq; rfl
      have hqt : q.tmps = a.tmps := by subst hq; rfl
      clear hq
      generalize hρ1 : ρ.ext ⟨[w.heap.size, w.heap.size + 1], [], [], [], [], [], [q]⟩ = ρ1 at hv1 hle hag hl b1 b2 b3
      have hown1 : Owns ((st.hp.map (Ck.den ρ1) ++ [dfrHP w.heap.size]) ++ Fs) (w.alloc (.deferred (some []))) := by
        refine Owns.add (by rw [← Cks_sc hag hw.sch]; exact hw.own) _ (fun k => k = w.heap.size) (by simp) (fun k hk => heap_alloc_old w _ hk) ⟨fun _ => Iff.rfl, heap_alloc_new w _⟩ (fun k hk => by simp; omega)
      have hown2 : Owns (((st.hp.map (Ck.den ρ1) ++ [dfrHP w.heap.size]) ++ [recHP (w.heap.size + 1) q]) ++ Fs) ((w.alloc (.deferred (some []))).alloc (.loop q)) := by
        have hsz : (w.alloc (.deferred (some []))).heap.size = w.heap.size + 1 := by simp
        refine Owns.add hown1 _ (fun k => k = w.heap.size + 1) (by simp) (fun k hk => heap_alloc_old _ _ hk) ⟨fun _ => Iff.rfl, ?_⟩ (fun k hk => by simp; omega)
        have := heap_alloc_new (w.alloc (.deferred (some []))) (.loop q)
        rwa [hsz] at this
      have hw1 : HW Fs w0 { st with hp := st.hp ++ [.dfr st.cnt.b] ++ [.lrec (st.cnt.b + 1) st.cnt.r .ready .none], cnt := { st.cnt with b := st.cnt.b + 2, r := st.cnt.r + 1 } } ρ1 ((w.alloc (.deferred (some []))).alloc (.loop q)) := by
        refine ⟨hl, frSc_mono hcl hw.scf, ?_, BEs_mono hcl hw.sck, fun b hb => (BE.sc_prop hag (List.all_eq_true.1 hw.sck b hb)).1 (hw.kn b hb), ?_, (hw.same.trans (alloc_same _ _)).trans (alloc_same _ _), dsc_mono hcl hw.scd⟩
        · simp only [List.all_append, Bool.and_eq_true, List.all_cons, List.all_nil, Ck.sc, Nat.blt_eq]
          exact ⟨⟨Cks_mono hcl hw.sch, by omega, trivial⟩, ⟨by omega, by omega⟩, trivial⟩
        · simp only [List.map_append, List.map_cons, List.map_nil, Ck.den, b1, b2, b3, hqr]
          exact hown2
      have hfr1 : frSc { st.cnt with b := st.cnt.b + 2, r := st.cnt.r + 1 } st.fr = true := frSc_mono hcl hw.scf
      have hds1 : (MK.one st.cnt.b :: st.nt.ds).all (MK.sc { st.cnt with b := st.cnt.b + 2, r := st.cnt.r + 1 }) = true := by
        rw [List.all_cons, Bool.and_eq_true, MK.sc, Nat.blt_eq]
        exact ⟨by show st.cnt.b < st.cnt.b + 2; omega, dsc_mono hcl hw.scd⟩
      have ha1 := ha.more hw.scf hw.scd hag
      have hstk1 : Stk ρ1 (.rf (st.cnt.b + 1) st.cnt.r st.fn ⟨st.nt.n, .one st.cnt.b :: st.nt.ds⟩ st.fr ps x y fd :: k) none := by
        refine ⟨fun l r fn nt fr ps' x' y' fd' hm => ?_, rfl⟩
        rcases List.mem_cons.1 hm with hm | hm
        · cases hm
          refine ⟨ρ1, _, hl, Env.Le.refl _, hfr1, by simp, by rw [b3, hps], by rw [b3, hqa], by rw [b3, hqb], ?_⟩
          rw [b3, hqt]
          exact ⟨rfl, ha1.size, ha1.slots⟩
        · exact (hstk.le hle).rf l r fn nt fr ps' x' y' fd' hm
      have hcall := inline_rf (Lb := L) hT hn IHc hf hb (a' := { a with defers := [{ target := .collected w.heap.size, args := #[] }] ++ a.defers }) hv1
        (by simp only [SV.scL, SV.sc, Bool.and_eq_true, Nat.blt_eq]; exact ⟨by omega, SV.scL_mono hcl hcaps⟩) hw1 hstk1 (hstk.le hle) hfr1 hds1
        ⟨by rw [ha.defers, marks_sc hag hw.scd]; simp only [marks, List.flatMap_cons, MK.blocks, List.map_cons, b1, List.singleton_append], ha1.size, ha1.slots⟩ hle (fun _ _ => rfl) (by simp)
      rw [b2] at hcall
      have hargs : (SV.vals ρ1 (.yld (st.cnt.b + 1) :: caps)).toArray = #[.func (.yield (w.heap.size + 1)) #[] #[]] ++ (SV.vals ρ caps).toArray := by
        simp only [SV.vals, SV.val, b2, (SV.scL_val hag hcaps).1]
        simp
      rw [hargs] at hcall
      exact hcall
    · -- a loop within a round
      rename_i l0 har
      rw [har] at hro
      simp only at hro
      obtain ⟨ρ0, c0, k1, k2, k3, k4⟩ := hro
      rw [(Env.Le.agree k1 k2).b l0 k3] at k4
      split at hv
      case h_2 => exact hv.elim
      rename_i rc hrec
      obtain ⟨i0, r0, s0, j0⟩ := rc
      have hblk := rec_block hw hrec
      refine wpIn_rangeFunc fun fn _ => ?_
      have e1 := run_enterLoop_inner (P := P) (w := w) hblk fn a.tmps ps x y
      rw [show (FW ro).round = ro from rfl, k4]
      refine ⟨_, _, _, _, _, f, _, _, e1, hres _ _, fun _ _ => trivial, hinv _ _, fun h => (by cases h), ?_⟩
      simp only [VC] at hv
      have hv1 := hv w.heap.size { state := .ready, pending := none, fn, tmps := a.tmps, params := ps, assign := x, body := y, defers := ({ ρ.lr.getD r0 loop0 with state := s0.st, pending := j0.code } : Loop).defers }
      generalize hq : ({ state := .ready, pending := none, fn, tmps := a.tmps, params := ps, assign := x, body := y, defers := ({ ρ.lr.getD r0 loop0 with state := s0.st, pending := j0.code } : Loop).defers } : Loop) = q at hv1 e1 ⊢
      have hle := Env.le_ext ρ ⟨[w.heap.size], [], [], [], [], [], [q]⟩
      have hag := Env.Le.agree hw.lens hle
      have hl := lens_rec1 hw.lens w.heap.size q
      have hcl := Lens.le hw.lens hl hle
      have b2 : (ρ.ext ⟨[w.heap.size], [], [], [], [], [], [q]⟩).bv.getD st.cnt.b 0 = w.heap.size := by simp [Env.ext, ← hw.lens.b]
      have b3 : (ρ.ext ⟨[w.heap.size], [], [], [], [], [], [q]⟩).lr.getD st.cnt.r loop0 = q := by simp [Env.ext, ← hw.lens.r]
      have hqr : ({ q with state := RS.ready.st, pending := Jump.none.code } : Loop) = q := by subst hq; rfl
      have hps : q.params = ps := by subst hq; rfl
      have hqa : q.assign = x := by subst hq; rfl
      have hqb : q.body = y := by subst hq; rfl
      have hqt : q.tmps = a.tmps := by subst hq; rfl
      clear hq
      generalize hρ1 : ρ.ext ⟨[w.heap.size], [], [], [], [], [], [q]⟩ = ρ1 at hv1 hle hag hl b2 b3
      have hown2 : Owns ((st.hp.map (Ck.den ρ1) ++ [recHP w.heap.size q]) ++ Fs) (w.alloc (.loop q)) := by
        refine Owns.add (by rw [← Cks_sc hag hw.sch]; exact hw.own) _ (fun k => k = w.heap.size) (by simp) (fun k hk => heap_alloc_old w _ hk) ⟨fun _ => Iff.rfl, heap_alloc_new w _⟩ (fun k hk => by simp; omega)
      have hw1 : HW Fs w0 { st with hp := st.hp ++ [.lrec st.cnt.b st.cnt.r .ready .none], cnt := { st.cnt with b := st.cnt.b + 1, r := st.cnt.r + 1 } } ρ1 (w.alloc (.loop q)) := by
        refine ⟨hl, frSc_mono hcl hw.scf, ?_, BEs_mono hcl hw.sck, fun b hb => (BE.sc_prop hag (List.all_eq_true.1 hw.sck b hb)).1 (hw.kn b hb), ?_, hw.same.trans (alloc_same _ _), dsc_mono hcl hw.scd⟩
        · simp only [List.all_append, Bool.and_eq_true, List.all_cons, List.all_nil, Ck.sc, Nat.blt_eq]
          exact ⟨Cks_mono hcl hw.sch, ⟨by omega, by omega⟩, trivial⟩
        · simp only [List.map_append, List.map_cons, List.map_nil, Ck.den, b2, b3, hqr]
          exact hown2
      have hfr1 : frSc { st.cnt with b := st.cnt.b + 1, r := st.cnt.r + 1 } st.fr = true := frSc_mono hcl hw.scf
      have ha1 := ha.more hw.scf hw.scd hag
      have hstk1 : Stk ρ1 (.rf st.cnt.b st.cnt.r st.fn st.nt st.fr ps x y fd :: k) none := by
        refine ⟨fun l r fn nt fr ps' x' y' fd' hm => ?_, rfl⟩
        rcases List.mem_cons.1 hm with hm | hm
        · cases hm
          refine ⟨ρ1, _, hl, Env.Le.refl _, hfr1, by simp, by rw [b3, hps], by rw [b3, hqa], by rw [b3, hqb], ?_⟩
          rw [b3, hqt]
          exact ⟨rfl, ha1.size, ha1.slots⟩
        · exact (hstk.le hle).rf l r fn nt fr ps' x' y' fd' hm
      have hcall := inline_rf (Lb := L) (ro := ro) hT hn IHc hf hb (a' := { a with defers := [] ++ a.defers }) hv1
        (by simp only [SV.scL, SV.sc, Bool.and_eq_true, Nat.blt_eq]; exact ⟨by omega, SV.scL_mono hcl hcaps⟩) hw1 hstk1 (hstk.le hle) hfr1 (dsc_mono hcl hw.scd)
        ⟨ha1.defers, ha1.size, ha1.slots⟩ hle (fun _ _ => rfl) (by simp)
      rw [b2] at hcall
      have hargs : (SV.vals ρ1 (.yld st.cnt.b :: caps)).toArray = #[.func (.yield w.heap.size) #[] #[]] ++ (SV.vals ρ caps).toArray := by
        simp only [SV.vals, SV.val, b2, (SV.scL_val hag hcaps).1]
        simp
      rw [hargs] at hcall
      rw [k4] at hcall
      exact hcall
end
end Go.RX

namespace Go.RX
section
variable {P : Program} {C : Ctx} {Post : Value → List HP → Prop} {Fs : List HP} {w0 : World}
theorem run_sound (hT : checkT P C.T = true) (hFT : FTOk P C.FT) (hPu : PureOk P C) (hm : P.follows .mixedOrders = true) (n : Nat) : SoundC P C Post Fs w0 n ∧ SoundO P C Post Fs w0 n ∧ SoundD P C Post Fs w0 n := by
  induction n using Nat.strongRecOn with
  | _ n ih => exact ⟨soundC_step hT (fun m hm => (ih m hm).1) (fun m hm => (ih m hm).2.1) (fun m hm => (ih m hm).2.2) (soundR_step hT hFT fun m hm => (ih m hm).1), soundO_step hT hFT hPu (fun m hm => (ih m hm).1) (fun m hm => (ih m hm).2.1), soundD_step hT hm (fun m hm => (ih m hm).2.1)⟩
theorem Meets.of_run (hT : checkT P C.T = true) (hFT : FTOk P C.FT) (hm : P.follows .mixedOrders = true) {f : Nat} {fd : Func} (hf : P.funcs[f]? = some fd) {args : List SV} {hp : List Ck} {cnt : Cnt} {ρ : Env} (hl : Lens ρ cnt)
    (h : VC P Post (runF C f args hp cnt fd) ρ fun _ => LC.none) (hPu : PureOk P C := by exact PureOk.none rfl) : Meets P f (SV.vals ρ args) (hp.map (Ck.den ρ)) Post := by
  intro w Fs hown
  unfold runF at h
  split at h
  case h_2 => exact h.elim
  rename_i c hb
  split at h
  case isFalse => exact h.elim
  rename_i hsc
  simp only [Bool.and_eq_true] at hsc
  have hw : HW Fs w { fn := f, fr := enumFrom 0 args, hp := hp, cnt := cnt, nt := ⟨fd.ntmps, []⟩ } ρ w :=
    ⟨hl, enum_sc args 0 hsc.1, hsc.2, rfl, fun b hb => (by cases hb), hown, Same.refl w, rfl⟩
  have hwp := (run_sound (Post := Post) (Fs := Fs) (w0 := w) hT hFT hPu hm 100000).1 none c _ _ ρ _ _ w h hw (enter_HA args fd.ntmps) ⟨fun l r fn nt fr ps x y fd hm => (by simp at hm), rfl⟩
  have key : ∀ a' w', At P C Post Fs w 100000 [.top fd] ρ (fun _ => LC.none) a' w' → LeavesInM (FW none) 0 P fd a'.tmps (fun e w' => ∃ v hs, e = .returned v ∧ Post v hs ∧ Owns (hs ++ Fs) w' ∧ Same w w') a'.defers .returning w' := by
    intro a' w' ⟨m, hm, st', ρ', L', h1, h2, h3, h4, h5⟩
    cases m with
    | zero => exact h5.elim
    | succ m =>
      simp only [run] at h5
      split at h5
      case h_2 => exact h5.elim
      rename_i st2 hlv
      have hst2 : st2.fr = st'.fr := by
        unfold leaveSt at hlv
        rw [Option.map_eq_some_iff] at hlv
        obtain ⟨hp', _, rfl⟩ := hlv
        rfl
      split at h5
      · rename_i v hv
        refine leaveSt_sound hlv h3 h4 fun w2 hw2 => ?_
        exact ⟨_, resAll_sound hT hw2 (nt := st'.nt) (by rw [hst2]; exact h4) hv, _, _, rfl, h5, hw2.own, hw2.same⟩
      · exact h5.elim
  have fin : ∀ e a' w', QK P C Post Fs w 100000 [.top fd] ρ (fun _ => LC.none) e a' w' → bodyPostM (FW none) 0 P fd (fun e w' => ∃ v hs, e = .returned v ∧ Post v hs ∧ Owns (hs ++ Fs) w' ∧ Same w w') e a' w' := by
    intro e a' w' hq
    obtain ⟨k', hk, hat⟩ := hq
    cases e with
    | normal => cases hk; exact key a' w' hat
    | ret => cases hk; exact key a' w' hat
    | exit id => cases hk
    | goto l => cases hk
    | panic l => cases hk
    | outgrown => cases hk
  have main : CallsIn (FW none) 0 P f (SV.vals ρ args).toArray w (fun e w' => ∃ v hs, e = .returned v ∧ Post v hs ∧ Owns (hs ++ Fs) w' ∧ Same w w') := by
    refine callsIn_of_wp_marks hf hb trivial (wpIn_mono hwp ?_) rfl
    exact fin
  have main' : CallsIn Fence.wide 0 P f (SV.vals ρ args).toArray w (fun e w' => ∃ v hs, e = .returned v ∧ Post v hs ∧ Owns (hs ++ Fs) w' ∧ Same w w') := main
  exact callsIn_wide.1 main'
end
end Go.RX

namespace Go.RX
theorem FTOk.nil {P : Program} : FTOk P [] := fun x hx => (by cases hx)
theorem FTOk.cons {P : Program} {FT : List (Nat × Func)} {f : Nat} {fd : Func} (h : P.funcs[f]? = some fd) (hn : (fd.name == "runtime.NumGoroutine") = false) (hr : FTOk P FT) : FTOk P ((f, fd) :: FT) := by
  intro x hx
  rcases List.mem_cons.1 hx with rfl | hx
  · exact ⟨h, hn⟩
  · exact hr x hx
def BE.surely (b : BE) : Option Bool := if b.sc {} then some (b.den env0) else none
theorem Meets.law {P : Program} {f : Nat} {args : List Value} {pre : List HP} (h : Meets P f args pre fun v _ => v = .bool true) (w : World) (hown : Owns (pre ++ [keptHP w.heap.size w]) w) :
    Calls P f args.toArray w fun e w' => e = .returned (.bool true) ∧ RowKit.Below w.heap.size w w' := by
  refine (h w _ hown).mono ?_
  rintro e w' ⟨v, hs, rfl, rfl, ⟨S, hS⟩, hsm⟩
  refine ⟨rfl, ?_⟩
  have := (hS.at_ hs.length (keptHP w.heap.size w) (by simp)).1
  exact ⟨hsm.os, hsm.tape, hsm.output, hsm.size, fun k hk => this.2 k hk⟩
theorem owns_kept (w : World) : Owns [keptHP w.heap.size w] w := by
  refine ⟨fun _ k => k < w.heap.size, ⟨?_, ?_⟩⟩
  · intro i h hi
    cases i with
    | zero => simp at hi; subst hi; exact ⟨⟨fun _ => Iff.rfl, fun _ _ => rfl⟩, fun _ h => h⟩
    | succ i => simp at hi
  · intro i j hi hj hne h1 h2
    cases i <;> cases j <;> simp_all
end Go.RX

namespace Go.RX
open Go.Proofs
set_option maxRecDepth 100000
def TT : List TI := [
  ⟨2, .int .i64, 1, 8, [.int .i64 (.lit 0)], []⟩,
  ⟨3, .int .i64, 1, 8, [.int .i64 (.lit 0)], []⟩,
  ⟨4, .bool, 1, 1, [.bool (.lit false)], []⟩,
  ⟨5, .int .u8, 1, 1, [.int .u8 (.lit 0)], []⟩,
  ⟨9, .str, 1, 16, [.str []], []⟩,
  ⟨21, .int .i32, 1, 4, [.int .i32 (.lit 0)], []⟩,
  ⟨22, .slice 36, 1, 24, [.nils], []⟩,
  ⟨25, .int .i64, 1, 8, [.int .i64 (.lit 0)], []⟩,
  ⟨29, .func, 1, 8, [.nilf], []⟩,
  ⟨32, .struct [(5, 0), (5, 1)], 2, 2, [.int .u8 (.lit 0), .int .u8 (.lit 0)], [(some .u8, 2)]⟩,
  ⟨33, .int .u64, 1, 8, [.int .u64 (.lit 0)], []⟩,
  ⟨34, .slice 5, 1, 24, [.nils], []⟩,
  ⟨36, .struct [(5, 0), (32, 1), (32, 3), (3, 5), (33, 6), (34, 7)], 8, 48, [.int .u8 (.lit 0), .int .u8 (.lit 0), .int .u8 (.lit 0), .int .u8 (.lit 0), .int .u8 (.lit 0), .int .i64 (.lit 0), .int .u64 (.lit 0), .nils], []⟩,
  ⟨45, .ptr 47, 1, 8, [.nilp], []⟩,
  ⟨47, .bld [(45, 0), (34, 1)] 5, 2, 32, [.nilp, .nils], []⟩,
  ⟨51, .iface, 1, 16, [.nili], []⟩,
  ⟨59, .func, 1, 8, [.nilf], []⟩,
  ⟨62, .slice 9, 1, 24, [.nils], []⟩,
  ⟨68, .ptr 5, 1, 8, [.nilp], []⟩,
  ⟨74, .func, 1, 8, [.nilf], []⟩,
  ⟨81, .int .u64, 1, 8, [.int .u64 (.lit 0)], []⟩,
  ⟨86, .slice 88, 1, 24, [.nils], []⟩,
  ⟨88, .struct [(3, 0), (3, 1)], 2, 16, [.int .i64 (.lit 0), .int .i64 (.lit 0)], [(some .i64, 2)]⟩,
  ⟨90, .ptr 36, 1, 8, [.nilp], []⟩,
  ⟨104, .arr 24 5, 24, 24, [.seg .u8 24 (.lit 0)], [(some .u8, 24)]⟩,
  ⟨120, .arr 20 33, 20, 160, [.seg .u64 20 (.lit 0)], [(some .u64, 20)]⟩,
  ⟨121, .int .u32, 1, 4, [.int .u32 (.lit 0)], []⟩,
  ⟨122, .arr 65 5, 65, 65, [.seg .u8 65 (.lit 0)], [(some .u8, 65)]⟩,
  ⟨125, .arr 256 5, 256, 256, [.seg .u8 256 (.lit 0)], [(some .u8, 256)]⟩,
  ⟨127, .struct [(5, 0), (5, 1)], 2, 2, [.int .u8 (.lit 0), .int .u8 (.lit 0)], [(some .u8, 2)]⟩,
  ⟨128, .arr 16 127, 32, 32, [.int .u8 (.lit 0), .int .u8 (.lit 0), .int .u8 (.lit 0), .int .u8 (.lit 0), .int .u8 (.lit 0), .int .u8 (.lit 0), .int .u8 (.lit 0), .int .u8 (.lit 0), .int .u8 (.lit 0), .int .u8 (.lit 0), .int .u8 (.lit 0), .int .u8 (.lit 0), .int .u8 (.lit 0), .int .u8 (.lit 0), .int .u8 (.lit 0), .int .u8 (.lit 0), .int .u8 (.lit 0), .int .u8 (.lit 0), .int .u8 (.lit 0), .int .u8 (.lit 0), .int .u8 (.lit 0), .int .u8 (.lit 0), .int .u8 (.lit 0), .int .u8 (.lit 0), .int .u8 (.lit 0), .int .u8 (.lit 0), .int .u8 (.lit 0), .int .u8 (.lit 0), .int .u8 (.lit 0), .int .u8 (.lit 0), .int .u8 (.lit 0), .int .u8 (.lit 0)], [(some .u8, 32)]⟩,
  ⟨140, .struct [(9, 0), (9, 1), (51, 2)], 3, 48, [.str [], .str [], .nili], []⟩,
  ⟨143, .arr 32 5, 32, 32, [.seg .u8 32 (.lit 0)], [(some .u8, 32)]⟩,
  ⟨144, .arr 64 5, 64, 64, [.seg .u8 64 (.lit 0)], [(some .u8, 64)]⟩,
  ⟨147, .struct [(9, 0)], 1, 16, [.str []], []⟩]
theorem okT : checkT Tryd.prog TT = true := by kernel_rfl
noncomputable def FT : List (Nat × Func) := [(2, Tryd.f2), (3, Tryd.f3), (4, Tryd.f4), (5, Tryd.f5), (6, Tryd.f6), (7, Tryd.f7), (8, Tryd.f8), (9, Tryd.f9), (10, Tryd.f10), (11, Tryd.f11), (12, Tryd.f12), (13, Tryd.f13), (14, Tryd.f14), (15, Tryd.f15), (16, Tryd.f16), (17, Tryd.f17), (18, Tryd.f18), (19, Tryd.f19), (20, Tryd.f20), (21, Tryd.f21), (22, Tryd.f22), (23, Tryd.f23), (24, Tryd.f24), (25, Tryd.f25), (26, Tryd.f26), (27, Tryd.f27), (28, Tryd.f28), (29, Tryd.f29), (30, Tryd.f30), (31, Tryd.f31), (32, Tryd.f32), (33, Tryd.f33), (34, Tryd.f34), (35, Tryd.f35), (36, Tryd.f36), (37, Tryd.f37), (39, Tryd.f39), (40, Tryd.f40), (41, Tryd.f41), (42, Tryd.f42), (43, Tryd.f43), (44, Tryd.f44), (45, Tryd.f45), (46, Tryd.f46), (47, Tryd.f47), (48, Tryd.f48), (49, Tryd.f49), (50, Tryd.f50), (51, Tryd.f51), (52, Tryd.f52), (53, Tryd.f53), (54, Tryd.f54), (55, Tryd.f55), (56, Tryd.f56), (57, Tryd.f57), (58, Tryd.f58), (59, Tryd.f59), (61, Tryd.f61), (62, Tryd.f62), (64, Tryd.f64), (65, Tryd.f65), (66, Tryd.f66), (67, Tryd.f67), (68, Tryd.f68), (69, Tryd.f69), (70, Tryd.f70), (71, Tryd.f71), (72, Tryd.f72), (74, Tryd.f74), (75, Tryd.f75), (76, Tryd.f76), (77, Tryd.f77), (78, Tryd.f78), (80, Tryd.f80), (81, Tryd.f81), (82, Tryd.f82), (83, Tryd.f83), (84, Tryd.f84), (85, Tryd.f85), (86, Tryd.f86), (87, Tryd.f87), (88, Tryd.f88), (89, Tryd.f89), (90, Tryd.f90), (91, Tryd.f91), (92, Tryd.f92), (122, Tryd.f122)]
theorem okFT : FTOk 
  Tryd.prog FT :=
  FTOk.cons Tryd.func2 (by kernel_rfl) <|
  FTOk.cons Tryd.func3 (by kernel_rfl) <|
  FTOk.cons Tryd.func4 (by kernel_rfl) <|
  FTOk.cons Tryd.func5 (by kernel_rfl) <|
  FTOk.cons Tryd.func6 (by kernel_rfl) <|
  FTOk.cons Tryd.func7 (by kernel_rfl) <|
  FTOk.cons Tryd.func8 (by kernel_rfl) <|
  FTOk.cons Tryd.func9 (by kernel_rfl) <|
  FTOk.cons Tryd.func10 (by kernel_rfl) <|
  FTOk.cons Tryd.func11 (by kernel_rfl) <|
  FTOk.cons Tryd.func12 (by kernel_rfl) <|
  FTOk.cons Tryd.func13 (by kernel_rfl) <|
  FTOk.cons Tryd.func14 (by kernel_rfl) <|
  FTOk.cons Tryd.func15 (by kernel_rfl) <|
  FTOk.cons Tryd.func16 (by kernel_rfl) <|
  FTOk.cons Tryd.func17 (by kernel_rfl) <|
  FTOk.cons Tryd.func18 (by kernel_rfl) <|
  FTOk.cons Tryd.func19 (by kernel_rfl) <|
  FTOk.cons Tryd.func20 (by kernel_rfl) <|
  FTOk.cons Tryd.func21 (by kernel_rfl) <|
  FTOk.cons Tryd.func22 (by kernel_rfl) <|
  FTOk.cons Tryd.func23 (by kernel_rfl) <|
  FTOk.cons Tryd.func24 (by kernel_rfl) <|
  FTOk.cons Tryd.func25 (by kernel_rfl) <|
  FTOk.cons Tryd.func26 (by kernel_rfl) <|
  FTOk.cons Tryd.func27 (by kernel_rfl) <|
  FTOk.cons Tryd.func28 (by kernel_rfl) <|
  FTOk.cons Tryd.func29 (by kernel_rfl) <|
  FTOk.cons Tryd.func30 (by kernel_rfl) <|
  FTOk.cons Tryd.func31 (by kernel_rfl) <|
  FTOk.cons Tryd.func32 (by kernel_rfl) <|
  FTOk.cons Tryd.func33 (by kernel_rfl) <|
  FTOk.cons Tryd.func34 (by kernel_rfl) <|
  FTOk.cons Tryd.func35 (by kernel_rfl) <|
  FTOk.cons Tryd.func36 (by kernel_rfl) <|
  FTOk.cons Tryd.func37 (by kernel_rfl) <|
  FTOk.cons Tryd.func39 (by kernel_rfl) <|
  FTOk.cons Tryd.func40 (by kernel_rfl) <|
  FTOk.cons Tryd.func41 (by kernel_rfl) <|
  FTOk.cons Tryd.func42 (by kernel_rfl) <|
  FTOk.cons Tryd.func43 (by kernel_rfl) <|
  FTOk.cons Tryd.func44 (by kernel_rfl) <|
  FTOk.cons Tryd.func45 (by kernel_rfl) <|
  FTOk.cons Tryd.func46 (by kernel_rfl) <|
  FTOk.cons Tryd.func47 (by kernel_rfl) <|
  FTOk.cons Tryd.func48 (by kernel_rfl) <|
  FTOk.cons Tryd.func49 (by kernel_rfl) <|
  FTOk.cons Tryd.func50 (by kernel_rfl) <|
  FTOk.cons Tryd.func51 (by kernel_rfl) <|
  FTOk.cons Tryd.func52 (by kernel_rfl) <|
  FTOk.cons Tryd.func53 (by kernel_rfl) <|
  FTOk.cons Tryd.func54 (by kernel_rfl) <|
  FTOk.cons Tryd.func55 (by kernel_rfl) <|
  FTOk.cons Tryd.func56 (by kernel_rfl) <|
  FTOk.cons Tryd.func57 (by kernel_rfl) <|
  FTOk.cons Tryd.func58 (by kernel_rfl) <|
  FTOk.cons Tryd.func59 (by kernel_rfl) <|
  FTOk.cons Tryd.func61 (by kernel_rfl) <|
  FTOk.cons Tryd.func62 (by kernel_rfl) <|
  FTOk.cons Tryd.func64 (by kernel_rfl) <|
  FTOk.cons Tryd.func65 (by kernel_rfl) <|
  FTOk.cons Tryd.func66 (by kernel_rfl) <|
  FTOk.cons Tryd.func67 (by kernel_rfl) <|
  FTOk.cons Tryd.func68 (by kernel_rfl) <|
  FTOk.cons Tryd.func69 (by kernel_rfl) <|
  FTOk.cons Tryd.func70 (by kernel_rfl) <|
  FTOk.cons Tryd.func71 (by kernel_rfl) <|
  FTOk.cons Tryd.func72 (by kernel_rfl) <|
  FTOk.cons Tryd.func74 (by kernel_rfl) <|
  FTOk.cons Tryd.func75 (by kernel_rfl) <|
  FTOk.cons Tryd.func76 (by kernel_rfl) <|
  FTOk.cons Tryd.func77 (by kernel_rfl) <|
  FTOk.cons Tryd.func78 (by kernel_rfl) <|
  FTOk.cons Tryd.func80 (by kernel_rfl) <|
  FTOk.cons Tryd.func81 (by kernel_rfl) <|
  FTOk.cons Tryd.func82 (by kernel_rfl) <|
  FTOk.cons Tryd.func83 (by kernel_rfl) <|
  FTOk.cons Tryd.func84 (by kernel_rfl) <|
  FTOk.cons Tryd.func85 (by kernel_rfl) <|
  FTOk.cons Tryd.func86 (by kernel_rfl) <|
  FTOk.cons Tryd.func87 (by kernel_rfl) <|
  FTOk.cons Tryd.func88 (by kernel_rfl) <|
  FTOk.cons Tryd.func89 (by kernel_rfl) <|
  FTOk.cons Tryd.func90 (by kernel_rfl) <|
  FTOk.cons Tryd.func91 (by kernel_rfl) <|
  FTOk.cons Tryd.func92 (by kernel_rfl) <|
  FTOk.cons Tryd.func122 (by kernel_rfl) <|
  FTOk.nil
theorem okM : Tryd.prog.follows .mixedOrders = true := by kernel_rfl
end Go.RX

namespace Go.RX.Au
def idxFrom (c : UInt8) : Nat → List UInt8 → Int
  | _, [] => -1
  | i, b :: l => if b == c then (i : Int) else idxFrom c (i + 1) l
def idxB (l : List UInt8) (c : UInt8) : Int := idxFrom c 0 l
def pIndexByte (az : List SV) (_ : List Ck) : Option PRes :=
  match az with
  | [.str l, .int .u8 (.lit c)] => some { val := .int .i64 (.lit (idxB l c.toNat.toUInt8)) }
  | _ => none
def pCount (az : List SV) (_ : List Ck) : Option PRes :=
  match az with
  | [.str l, .str [c]] => some { val := .int .i64 (.lit (l.count c)) }
  | _ => none
def findBld (hp : List Ck) (b : Nat) : Option (Nat × Nat × Nat × E × E) :=
  match hp.findIdx? (fun c => match c with | .bld b' .. => b == b' | _ => false) with
  | some j => match hp[j]? with
    | some (.bld _ t e n a) => some (j, t, e, n, a)
    | _ => none
  | none => none
def pWriteByte (az : List SV) (hp : List Ck) : Option PRes :=
  match az with
  | [.ptr b 0, .int .u8 c] =>
    match findBld hp b with
    | some (j, 47, 5, n, a) => some { val := .nili, vcs := bLe' (.lit 0) n ++ [bLe (eAdd n (.lit 1)) (.lit 140737488355328)], use := [j], new := [.bld b 47 5 (eAdd n (.lit 1)) (.upd a n c)] }
    | _ => none
  | _ => none
def bytesL (a : E) (n : Nat) : Option (List UInt8) :=
  match litsOf a n with
  | some l => if l.all (fun b => decide (0 ≤ b) && decide (b < 256)) then some (l.map fun b => UInt8.ofNat b.toNat) else none
  | none => none
def byteVcs (a : E) (k : Nat) : List BE := ((List.range k).flatMap fun (j : Nat) => [bLe (.lit 0) (eSel a (.lit (j : Int))), bLe (eSel a (.lit (j : Int))) (.lit 255)]).filter fun b => b != .lit true
def pString (az : List SV) (hp : List Ck) : Option PRes :=
  match az with
  | [.ptr b 0] =>
    match findBld hp b with
    | some (j, 47, 5, .lit (.ofNat k), a) =>
      match bytesL a k with
      | some (x :: l) => some { val := .str (x :: l), use := [j], new := [] }
      | _ => if k = 0 then none else some { val := .strE (eBytes a (.lit k)), vcs := byteVcs a k, use := [j], new := [] }
    | _ => none
  | _ => none
def strsOf : List SV → Option (List (List UInt8))
  | [] => some []
  | .str l :: r => (strsOf r).map (l :: ·)
  | _ => none
def joinL (sep : List UInt8) : List (List UInt8) → List UInt8
  | [] => []
  | [x] => x
  | x :: r => x ++ sep ++ joinL sep r
def pJoin (az : List SV) (hp : List Ck) : Option PRes :=
  match az with
  | [.sl b (.lit 0) 1 (.lit (.ofNat n)) (.lit (.ofNat m)), .str sep] =>
    match findAt hp b with
    | some (j, .row b' wr cs) =>
      match strsOf cs with
      | some xs => if xs.length = n ∧ n ≤ m ∧ n ≤ 1000 ∧ (joinL sep xs).length ≤ 1000000 then some { val := .str (joinL sep xs), use := [j], new := [.row b' wr cs] } else none
      | none => none
    | _ => none
  | _ => none
def pure (f : Nat) : Option (List SV → List Ck → Option PRes) :=
  match f with
  | 62 => some pIndexByte
  | 55 => some pCount
  | 36 => some pWriteByte
  | 15 => some pString
  | 25 => some pJoin
  | _ => none
end Go.RX.Au
