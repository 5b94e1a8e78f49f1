/- A reflective symbolic executor, part 25e: the statement that ranges over a function. · A reflective symbolic executor, part 26: the theorem. · A reflective symbolic executor, part 27: formulas that hold at sight; what a law's statement asks. -/
import Derived.Test.YtgaabcinjbjbgaaGreatDoorRxYd
import Derived.Below

namespace Go.RX
section
variable {P : Program} {C : Ctx} {Post : Value → List HP → Prop} {Fs : List HP} {w0 : World}
/-- The iterator is walked with the statement behind it. -/
theorem inline_rf (hT : checkT P C.T = true) {n N : Nat} (hnN : n < N) (IHc : ∀ m, m < N → SoundC P C Post Fs w0 m) {ro : Option Nat} {c : Code} {fd : Func} {f : Nat} (hf : P.funcs[f]? = some fd) (hb : fd.body = some c) {k : List KI} {st : St} {ρ ρb : Env} {L Lb : Nat → LC} {w : World}
    {as : List SV} {l r fn : Nat} {nt : NT} {fr : List (Nat × SV)} {ps : Array Tmp} {x y : Code} {a' : Act}
    (hv : VC P Post (run C n (.code c :: .rf l r fn nt fr ps x y fd :: k) (setNt st f ⟨fd.ntmps, []⟩ (enumFrom 0 as))) ρ L) (hsc : SV.scL st.cnt as = true) (hw : HW Fs w0 st ρ w)
    (hstk : Stk ρ (.rf l r fn nt fr ps x y fd :: k) none) (hstkk : Stk ρ k ro) (hfr : frSc st.cnt fr = true) (hds : nt.ds.all (MK.sc st.cnt) = true) (ha : HA fr nt ρ a') (hle : Env.Le ρb ρ) (hL : ∀ j, j < nl k → L j = Lb j) (hl : l < st.cnt.b) :
    CallsIn (FW none) 0 P f (SV.vals ρ as).toArray w (rangePost (FW ro) 0 P (ρ.bv.getD l 0) (QK P C Post Fs w0 N k ρb Lb) a') := by
  refine callsIn_of_wp_marks hf hb trivial ?_ rfl
  have hw' : HW Fs w0 (setNt st f ⟨fd.ntmps, []⟩ (enumFrom 0 as)) ρ w := ⟨hw.lens, enum_sc as 0 hsc, hw.sch, hw.sck, hw.kn, hw.own, hw.same, rfl⟩
  refine wpIn_mono (IHc n hnN none c _ _ ρ L _ w hv hw' (enter_HA as fd.ntmps) hstk) ?_
  have key : ∀ a1 w1, At P C Post Fs w0 n (.rf l r fn nt fr ps x y fd :: k) ρ L a1 w1 → LeavesInM (FW none) 0 P fd a1.tmps (rangePost (FW ro) 0 P (ρ.bv.getD l 0) (QK P C Post Fs w0 N k ρb Lb) a') a1.defers .returning w1 := by
    intro a1 w1 ⟨m, hm, st', ρ', L', h1, h2, h3, h4, h5⟩
    cases m with
    | zero => exact h5.elim
    | succ m =>
      simp only [run] at h5
      split at h5
      case h_2 => exact h5.elim
      rename_i st2 hlv
      have hst2 : st2.fr = st'.fr ∧ st2.nt = st'.nt ∧ st2.cnt = st'.cnt := by
        unfold leaveSt at hlv
        rw [Option.map_eq_some_iff] at hlv
        obtain ⟨hp', _, rfl⟩ := hlv
        exact ⟨rfl, rfl, rfl⟩
      split at h5
      case h_2 => exact h5.elim
      rename_i v i r' s j hv hrec
      split at h5
      · exact h5.elim
      · rename_i hbusy
        refine leaveSt_sound hlv h3 h4 fun w2 hw2 => ?_
        refine ⟨_, resAll_sound hT hw2 (nt := st'.nt) (by rw [hst2.1]; exact h4) hv, ?_⟩
        have hblk := rec_block hw2 hrec
        have hbv : ρ'.bv.getD l 0 = ρ.bv.getD l 0 := ((Env.Le.agree hw.lens h1).b l hl).symm
        rw [hbv] at hblk
        refine ⟨j.code, _, run_endLoop hblk (by cases s <;> first | (simp [RS.st]; done) | exact absurd rfl hbusy), ?_⟩
        have hw3 := rec_set hw2 hrec .exhausted j
        rw [hbv] at hw3
        have hcl := Lens.le hw.lens hw2.lens h1
        have hw4 : HW Fs w0 (setNt { st2 with hp := st2.hp.set i (.lrec l r' .exhausted j) } fn nt fr) ρ' _ := ⟨hw3.lens, frSc_mono hcl hfr, hw3.sch, hw3.sck, hw3.kn, hw3.own, hw3.same, dsc_mono hcl hds⟩
        have ha4 : HA fr nt ρ' a' := ha.more hfr hds (Env.Le.agree hw.lens h1)
        have hL' : ∀ q, q < nl k → L' q = Lb q := fun q hq => (h2 q hq).trans (hL q hq)
        cases j with
        | none =>
          exact ⟨k, rfl, m, by omega, _, ρ', L', hle.trans h1, hL', hw4, ha4, h5⟩
        | ret =>
          exact wpIn_mono (IHc m (by omega) ro .ret k _ ρ' L' a' _ h5 hw4 ha4 (hstkk.le h1)) fun e a w hq => hq.mono (by omega) (hle.trans h1) hL'
        | exit id =>
          exact wpIn_mono (IHc m (by omega) ro (.exit id) k _ ρ' L' a' _ h5 hw4 ha4 (hstkk.le h1)) fun e a w hq => hq.mono (by omega) (hle.trans h1) hL'
  intro e a1 w1 hq
  obtain ⟨k', hk, hat⟩ := hq
  cases e with
  | normal => cases hk; exact key a1 w1 hat
  | ret => cases hk; exact key a1 w1 hat
  | exit id => cases hk
  | goto l => cases hk
  | panic l => cases hk
  | outgrown => cases hk
theorem lens_rec1 {ρ : Env} {c : Cnt} (h : Lens ρ c) (l : Nat) (q : Loop) : Lens (ρ.ext ⟨[l], [], [], [], [], [], [q]⟩) { c with b := c.b + 1, r := c.r + 1 } :=
  ⟨by simp [Env.ext, h.b], by simp [Env.ext, h.v], by simp [Env.ext, h.i], by simp [Env.ext, h.a], by simp [Env.ext, h.bo], by simp [Env.ext, h.p], by simp [Env.ext, h.r]⟩
theorem lens_rec2 {ρ : Env} {c : Cnt} (h : Lens ρ c) (d l : Nat) (q : Loop) : Lens (ρ.ext ⟨[d, l], [], [], [], [], [], [q]⟩) { c with b := c.b + 2, r := c.r + 1 } :=
  ⟨by simp [Env.ext, h.b], by simp [Env.ext, h.v], by simp [Env.ext, h.i], by simp [Env.ext, h.a], by simp [Env.ext, h.bo], by simp [Env.ext, h.p], by simp [Env.ext, h.r]⟩
theorem alloc_same (w : World) (o : Obj) : Same w (w.alloc o) := ⟨rfl, rfl, rfl, by simp⟩
theorem soundR_step (hT : checkT P C.T = true) (hFT : FTOk P C.FT) {n : Nat} (IHc : ∀ m, m < n → SoundC P C Post Fs w0 m) : SoundR P C Post Fs w0 n := by
  intro ro g ps x y k st ρ L a w hv hw ha hstk
  cases n with
  | zero => exact hv.elim
  | succ n =>
    have hn : n < n + 1 := Nat.lt_succ_self n
    simp only [run] at hv
    split at hv
    case h_2 => exact hv.elim
    rename_i f caps hg
    have hev := opEval_spec ha.eval hg
    split at hv
    · exact hv.elim
    rename_i fd hfind
    have hmem := List.mem_of_find?_eq_some hfind
    have hx1 := List.find?_some hfind
    simp only [beq_iff_eq] at hx1
    obtain ⟨hf, hname⟩ := hFT _ hmem
    simp only at hf hname
    rw [hx1] at hf
    split at hv
    · exact hv.elim
    rename_i c hb
    split at hv
    case isFalse => exact hv.elim
    rename_i hcaps
    have hname' : ¬ fd.name = "runtime.NumGoroutine" := by simpa using hname
    have hres : ∀ (l : Nat) (w1 : World), (resolve a.eval (rangeCall g l) 0).run P w1 = .ok { target := .fn (.func f) (SV.vals ρ caps).toArray, args := #[.func (.yield l) #[] #[]] } w1 := by
      intro l w1
      simp only [resolve, hev, SV.val, Deferred.ofValue]
      simp [Act.eval]
    have hinv : ∀ (l : Nat) (w1 : World), (invoke (.fn (.func f) (SV.vals ρ caps).toArray) #[.func (.yield l) #[] #[]]).run P w1 = .ok (.enter f (#[.func (.yield l) #[] #[]] ++ (SV.vals ρ caps).toArray)) w1 := by
      intro l w1
      simp [invoke, callFunc, hf, hname', hb]
    have hro := hstk.ro
    split at hv
    · -- an outermost loop
      rename_i har
      rw [har] at hro
      simp only at hro
      subst hro
      refine wpIn_rangeFunc fun fn _ => ?_
      have e1 := run_enterLoop_outer (P := P) (w := w) fn a.tmps ps x y
      refine ⟨_, _, _, _, _, f, _, _, e1, hres _ _, fun _ _ => trivial, hinv _ _, fun h => (by cases h), ?_⟩
      simp only [VC] at hv
      have hv1 := hv w.heap.size (w.heap.size + 1) { state := .ready, pending := none, fn, tmps := a.tmps, params := ps, assign := x, body := y, defers := w.heap.size }
      generalize hq : ({ state := .ready, pending := none, fn, tmps := a.tmps, params := ps, assign := x, body := y, defers := w.heap.size } : Loop) = q at hv1 e1 ⊢
      have hle := Env.le_ext ρ ⟨[w.heap.size, w.heap.size + 1], [], [], [], [], [], [q]⟩
      have hag := Env.Le.agree hw.lens hle
      have hl := lens_rec2 hw.lens w.heap.size (w.heap.size + 1) q
      have hcl := Lens.le hw.lens hl hle
      have b1 : (ρ.ext ⟨[w.heap.size, w.heap.size + 1], [], [], [], [], [], [q]⟩).bv.getD st.cnt.b 0 = w.heap.size := by simp [Env.ext, ← hw.lens.b]
      have b2 : (ρ.ext ⟨[w.heap.size, w.heap.size + 1], [], [], [], [], [], [q]⟩).bv.getD (st.cnt.b + 1) 0 = w.heap.size + 1 := by simp [Env.ext, ← hw.lens.b]
      have b3 : (ρ.ext ⟨[w.heap.size, w.heap.size + 1], [], [], [], [], [], [q]⟩).lr.getD st.cnt.r loop0 = q := by simp [Env.ext, ← hw.lens.r]
      have hqr : ({ q with state := RS.ready.st, pending := Jump.none.code } : Loop) = q := by subst hq; rfl
      have hps : q.params = ps := by subst hq; rfl
      have hqa : q.assign = x := by subst hq; rfl
      have hqb : q.body = y := by subst hq; rfl
      have hqt : q.tmps = a.tmps := by subst hq; rfl
      clear hq
      generalize hρ1 : ρ.ext ⟨[w.heap.size, w.heap.size + 1], [], [], [], [], [], [q]⟩ = ρ1 at hv1 hle hag hl b1 b2 b3
      have hown1 : Owns ((st.hp.map (Ck.den ρ1) ++ [dfrHP w.heap.size]) ++ Fs) (w.alloc (.deferred (some []))) := by
        refine Owns.add (by rw [← Cks_sc hag hw.sch]; exact hw.own) _ (fun k => k = w.heap.size) (by simp) (fun k hk => heap_alloc_old w _ hk) ⟨fun _ => Iff.rfl, heap_alloc_new w _⟩ (fun k hk => by simp; omega)
      have hown2 : Owns (((st.hp.map (Ck.den ρ1) ++ [dfrHP w.heap.size]) ++ [recHP (w.heap.size + 1) q]) ++ Fs) ((w.alloc (.deferred (some []))).alloc (.loop q)) := by
        have hsz : (w.alloc (.deferred (some []))).heap.size = w.heap.size + 1 := by simp
        refine Owns.add hown1 _ (fun k => k = w.heap.size + 1) (by simp) (fun k hk => heap_alloc_old _ _ hk) ⟨fun _ => Iff.rfl, ?_⟩ (fun k hk => by simp; omega)
        have := heap_alloc_new (w.alloc (.deferred (some []))) (.loop q)
        rwa [hsz] at this
      have hw1 : HW Fs w0 { st with hp := st.hp ++ [.dfr st.cnt.b] ++ [.lrec (st.cnt.b + 1) st.cnt.r .ready .none], cnt := { st.cnt with b := st.cnt.b + 2, r := st.cnt.r + 1 } } ρ1 ((w.alloc (.deferred (some []))).alloc (.loop q)) := by
        refine ⟨hl, frSc_mono hcl hw.scf, ?_, BEs_mono hcl hw.sck, fun b hb => (BE.sc_prop hag (List.all_eq_true.1 hw.sck b hb)).1 (hw.kn b hb), ?_, (hw.same.trans (alloc_same _ _)).trans (alloc_same _ _), dsc_mono hcl hw.scd⟩
        · simp only [List.all_append, Bool.and_eq_true, List.all_cons, List.all_nil, Ck.sc, Nat.blt_eq]
          exact ⟨⟨Cks_mono hcl hw.sch, by omega, trivial⟩, ⟨by omega, by omega⟩, trivial⟩
        · simp only [List.map_append, List.map_cons, List.map_nil, Ck.den, b1, b2, b3, hqr]
          exact hown2
      have hfr1 : frSc { st.cnt with b := st.cnt.b + 2, r := st.cnt.r + 1 } st.fr = true := frSc_mono hcl hw.scf
      have hds1 : (MK.one st.cnt.b :: st.nt.ds).all (MK.sc { st.cnt with b := st.cnt.b + 2, r := st.cnt.r + 1 }) = true := by
        rw [List.all_cons, Bool.and_eq_true, MK.sc, Nat.blt_eq]
        exact ⟨by show st.cnt.b < st.cnt.b + 2; omega, dsc_mono hcl hw.scd⟩
      have ha1 := ha.more hw.scf hw.scd hag
      have hstk1 : Stk ρ1 (.rf (st.cnt.b + 1) st.cnt.r st.fn ⟨st.nt.n, .one st.cnt.b :: st.nt.ds⟩ st.fr ps x y fd :: k) none := by
        refine ⟨fun l r fn nt fr ps' x' y' fd' hm => ?_, rfl⟩
        rcases List.mem_cons.1 hm with hm | hm
        · cases hm
          refine ⟨ρ1, _, hl, Env.Le.refl _, hfr1, by simp, by rw [b3, hps], by rw [b3, hqa], by rw [b3, hqb], ?_⟩
          rw [b3, hqt]
          exact ⟨rfl, ha1.size, ha1.slots⟩
        · exact (hstk.le hle).rf l r fn nt fr ps' x' y' fd' hm
      have hcall := inline_rf (Lb := L) hT hn IHc hf hb (a' := { a with defers := [{ target := .collected w.heap.size, args := #[] }] ++ a.defers }) hv1
        (by simp only [SV.scL, SV.sc, Bool.and_eq_true, Nat.blt_eq]; exact ⟨by omega, SV.scL_mono hcl hcaps⟩) hw1 hstk1 (hstk.le hle) hfr1 hds1
        ⟨by rw [ha.defers, marks_sc hag hw.scd]; simp only [marks, List.flatMap_cons, MK.blocks, List.map_cons, b1, List.singleton_append], ha1.size, ha1.slots⟩ hle (fun _ _ => rfl) (by simp)
      rw [b2] at hcall
      have hargs : (SV.vals ρ1 (.yld (st.cnt.b + 1) :: caps)).toArray = #[.func (.yield (w.heap.size + 1)) #[] #[]] ++ (SV.vals ρ caps).toArray := by
        simp only [SV.vals, SV.val, b2, (SV.scL_val hag hcaps).1]
        simp
      rw [hargs] at hcall
      exact hcall
    · -- a loop within a round
      rename_i l0 har
      rw [har] at hro
      simp only at hro
      obtain ⟨ρ0, c0, k1, k2, k3, k4⟩ := hro
      rw [(Env.Le.agree k1 k2).b l0 k3] at k4
      split at hv
      case h_2 => exact hv.elim
      rename_i rc hrec
      obtain ⟨i0, r0, s0, j0⟩ := rc
      have hblk := rec_block hw hrec
      refine wpIn_rangeFunc fun fn _ => ?_
      have e1 := run_enterLoop_inner (P := P) (w := w) hblk fn a.tmps ps x y
      rw [show (FW ro).round = ro from rfl, k4]
      refine ⟨_, _, _, _, _, f, _, _, e1, hres _ _, fun _ _ => trivial, hinv _ _, fun h => (by cases h), ?_⟩
      simp only [VC] at hv
      have hv1 := hv w.heap.size { state := .ready, pending := none, fn, tmps := a.tmps, params := ps, assign := x, body := y, defers := ({ ρ.lr.getD r0 loop0 with state := s0.st, pending := j0.code } : Loop).defers }
      generalize hq : ({ state := .ready, pending := none, fn, tmps := a.tmps, params := ps, assign := x, body := y, defers := ({ ρ.lr.getD r0 loop0 with state := s0.st, pending := j0.code } : Loop).defers } : Loop) = q at hv1 e1 ⊢
      have hle := Env.le_ext ρ ⟨[w.heap.size], [], [], [], [], [], [q]⟩
      have hag := Env.Le.agree hw.lens hle
      have hl := lens_rec1 hw.lens w.heap.size q
      have hcl := Lens.le hw.lens hl hle
      have b2 : (ρ.ext ⟨[w.heap.size], [], [], [], [], [], [q]⟩).bv.getD st.cnt.b 0 = w.heap.size := by simp [Env.ext, ← hw.lens.b]
      have b3 : (ρ.ext ⟨[w.heap.size], [], [], [], [], [], [q]⟩).lr.getD st.cnt.r loop0 = q := by simp [Env.ext, ← hw.lens.r]
      have hqr : ({ q with state := RS.ready.st, pending := Jump.none.code } : Loop) = q := by subst hq; rfl
      have hps : q.params = ps := by subst hq; rfl
      have hqa : q.assign = x := by subst hq; rfl
      have hqb : q.body = y := by subst hq; rfl
      have hqt : q.tmps = a.tmps := by subst hq; rfl
      clear hq
      generalize hρ1 : ρ.ext ⟨[w.heap.size], [], [], [], [], [], [q]⟩ = ρ1 at hv1 hle hag hl b2 b3
      have hown2 : Owns ((st.hp.map (Ck.den ρ1) ++ [recHP w.heap.size q]) ++ Fs) (w.alloc (.loop q)) := by
        refine Owns.add (by rw [← Cks_sc hag hw.sch]; exact hw.own) _ (fun k => k = w.heap.size) (by simp) (fun k hk => heap_alloc_old w _ hk) ⟨fun _ => Iff.rfl, heap_alloc_new w _⟩ (fun k hk => by simp; omega)
      have hw1 : HW Fs w0 { st with hp := st.hp ++ [.lrec st.cnt.b st.cnt.r .ready .none], cnt := { st.cnt with b := st.cnt.b + 1, r := st.cnt.r + 1 } } ρ1 (w.alloc (.loop q)) := by
        refine ⟨hl, frSc_mono hcl hw.scf, ?_, BEs_mono hcl hw.sck, fun b hb => (BE.sc_prop hag (List.all_eq_true.1 hw.sck b hb)).1 (hw.kn b hb), ?_, hw.same.trans (alloc_same _ _), dsc_mono hcl hw.scd⟩
        · simp only [List.all_append, Bool.and_eq_true, List.all_cons, List.all_nil, Ck.sc, Nat.blt_eq]
          exact ⟨Cks_mono hcl hw.sch, ⟨by omega, by omega⟩, trivial⟩
        · simp only [List.map_append, List.map_cons, List.map_nil, Ck.den, b2, b3, hqr]
          exact hown2
      have hfr1 : frSc { st.cnt with b := st.cnt.b + 1, r := st.cnt.r + 1 } st.fr = true := frSc_mono hcl hw.scf
      have ha1 := ha.more hw.scf hw.scd hag
      have hstk1 : Stk ρ1 (.rf st.cnt.b st.cnt.r st.fn st.nt st.fr ps x y fd :: k) none := by
        refine ⟨fun l r fn nt fr ps' x' y' fd' hm => ?_, rfl⟩
        rcases List.mem_cons.1 hm with hm | hm
        · cases hm
          refine ⟨ρ1, _, hl, Env.Le.refl _, hfr1, by simp, by rw [b3, hps], by rw [b3, hqa], by rw [b3, hqb], ?_⟩
          rw [b3, hqt]
          exact ⟨rfl, ha1.size, ha1.slots⟩
        · exact (hstk.le hle).rf l r fn nt fr ps' x' y' fd' hm
      have hcall := inline_rf (Lb := L) (ro := ro) hT hn IHc hf hb (a' := { a with defers := [] ++ a.defers }) hv1
        (by simp only [SV.scL, SV.sc, Bool.and_eq_true, Nat.blt_eq]; exact ⟨by omega, SV.scL_mono hcl hcaps⟩) hw1 hstk1 (hstk.le hle) hfr1 (dsc_mono hcl hw.scd)
        ⟨ha1.defers, ha1.size, ha1.slots⟩ hle (fun _ _ => rfl) (by simp)
      rw [b2] at hcall
      have hargs : (SV.vals ρ1 (.yld st.cnt.b :: caps)).toArray = #[.func (.yield w.heap.size) #[] #[]] ++ (SV.vals ρ caps).toArray := by
        simp only [SV.vals, SV.val, b2, (SV.scL_val hag hcaps).1]
        simp
      rw [hargs] at hcall
      rw [k4] at hcall
      exact hcall
end
end Go.RX

namespace Go.RX
section
variable {P : Program} {C : Ctx} {Post : Value → List HP → Prop} {Fs : List HP} {w0 : World}
theorem run_sound (hT : checkT P C.T = true) (hFT : FTOk P C.FT) (hPu : PureOk P C) (hm : P.follows .mixedOrders = true) (n : Nat) : SoundC P C Post Fs w0 n ∧ SoundO P C Post Fs w0 n ∧ SoundD P C Post Fs w0 n := by
  induction n using Nat.strongRecOn with
  | _ n ih => exact ⟨soundC_step hT (fun m hm => (ih m hm).1) (fun m hm => (ih m hm).2.1) (fun m hm => (ih m hm).2.2) (soundR_step hT hFT fun m hm => (ih m hm).1), soundO_step hT hFT hPu (fun m hm => (ih m hm).1) (fun m hm => (ih m hm).2.1), soundD_step hT hm (fun m hm => (ih m hm).2.1)⟩
theorem Meets.of_run (hT : checkT P C.T = true) (hFT : FTOk P C.FT) (hm : P.follows .mixedOrders = true) {f : Nat} {fd : Func} (hf : P.funcs[f]? = some fd) {args : List SV} {hp : List Ck} {cnt : Cnt} {ρ : Env} (hl : Lens ρ cnt)
    (h : VC P Post (runF C f args hp cnt fd) ρ fun _ => LC.none) (hPu : PureOk P C := by exact PureOk.none rfl) : Meets P f (SV.vals ρ args) (hp.map (Ck.den ρ)) Post := by
  intro w Fs hown
  unfold runF at h
  split at h
  case h_2 => exact h.elim
  rename_i c hb
  split at h
  case isFalse => exact h.elim
  rename_i hsc
  simp only [Bool.and_eq_true] at hsc
  have hw : HW Fs w { fn := f, fr := enumFrom 0 args, hp := hp, cnt := cnt, nt := ⟨fd.ntmps, []⟩ } ρ w :=
    ⟨hl, enum_sc args 0 hsc.1, hsc.2, rfl, fun b hb => (by cases hb), hown, Same.refl w, rfl⟩
  have hwp := (run_sound (Post := Post) (Fs := Fs) (w0 := w) hT hFT hPu hm 100000).1 none c _ _ ρ _ _ w h hw (enter_HA args fd.ntmps) ⟨fun l r fn nt fr ps x y fd hm => (by simp at hm), rfl⟩
  have key : ∀ a' w', At P C Post Fs w 100000 [.top fd] ρ (fun _ => LC.none) a' w' → LeavesInM (FW none) 0 P fd a'.tmps (fun e w' => ∃ v hs, e = .returned v ∧ Post v hs ∧ Owns (hs ++ Fs) w' ∧ Same w w') a'.defers .returning w' := by
    intro a' w' ⟨m, hm, st', ρ', L', h1, h2, h3, h4, h5⟩
    cases m with
    | zero => exact h5.elim
    | succ m =>
      simp only [run] at h5
      split at h5
      case h_2 => exact h5.elim
      rename_i st2 hlv
      have hst2 : st2.fr = st'.fr := by
        unfold leaveSt at hlv
        rw [Option.map_eq_some_iff] at hlv
        obtain ⟨hp', _, rfl⟩ := hlv
        rfl
      split at h5
      · rename_i v hv
        refine leaveSt_sound hlv h3 h4 fun w2 hw2 => ?_
        exact ⟨_, resAll_sound hT hw2 (nt := st'.nt) (by rw [hst2]; exact h4) hv, _, _, rfl, h5, hw2.own, hw2.same⟩
      · exact h5.elim
  have fin : ∀ e a' w', QK P C Post Fs w 100000 [.top fd] ρ (fun _ => LC.none) e a' w' → bodyPostM (FW none) 0 P fd (fun e w' => ∃ v hs, e = .returned v ∧ Post v hs ∧ Owns (hs ++ Fs) w' ∧ Same w w') e a' w' := by
    intro e a' w' hq
    obtain ⟨k', hk, hat⟩ := hq
    cases e with
    | normal => cases hk; exact key a' w' hat
    | ret => cases hk; exact key a' w' hat
    | exit id => cases hk
    | goto l => cases hk
    | panic l => cases hk
    | outgrown => cases hk
  have main : CallsIn (FW none) 0 P f (SV.vals ρ args).toArray w (fun e w' => ∃ v hs, e = .returned v ∧ Post v hs ∧ Owns (hs ++ Fs) w' ∧ Same w w') := by
    refine callsIn_of_wp_marks hf hb trivial (wpIn_mono hwp ?_) rfl
    exact fin
  have main' : CallsIn Fence.wide 0 P f (SV.vals ρ args).toArray w (fun e w' => ∃ v hs, e = .returned v ∧ Post v hs ∧ Owns (hs ++ Fs) w' ∧ Same w w') := main
  exact callsIn_wide.1 main'
end
end Go.RX

namespace Go.RX
theorem FTOk.nil {P : Program} : FTOk P [] := fun x hx => (by cases hx)
theorem FTOk.cons {P : Program} {FT : List (Nat × Func)} {f : Nat} {fd : Func} (h : P.funcs[f]? = some fd) (hn : (fd.name == "runtime.NumGoroutine") = false) (hr : FTOk P FT) : FTOk P ((f, fd) :: FT) := by
  intro x hx
  rcases List.mem_cons.1 hx with rfl | hx
  · exact ⟨h, hn⟩
  · exact hr x hx
def BE.surely (b : BE) : Option Bool := if b.sc {} then some (b.den env0) else none
/-- What a law's statement asks of a call: true, and nothing that was there is written. -/
theorem Meets.law {P : Program} {f : Nat} {args : List Value} {pre : List HP} (h : Meets P f args pre fun v _ => v = .bool true) (w : World) (hown : Owns (pre ++ [keptHP w.heap.size w]) w) :
    Calls P f args.toArray w fun e w' => e = .returned (.bool true) ∧ RowKit.Below w.heap.size w w' := by
  refine (h w _ hown).mono ?_
  rintro e w' ⟨v, hs, rfl, rfl, ⟨S, hS⟩, hsm⟩
  refine ⟨rfl, ?_⟩
  have := (hS.at_ hs.length (keptHP w.heap.size w) (by simp)).1
  exact ⟨hsm.os, hsm.tape, hsm.output, hsm.size, fun k hk => this.2 k hk⟩
theorem owns_kept (w : World) : Owns [keptHP w.heap.size w] w := by
  refine ⟨fun _ k => k < w.heap.size, ⟨?_, ?_⟩⟩
  · intro i h hi
    cases i with
    | zero => simp at hi; subst hi; exact ⟨⟨fun _ => Iff.rfl, fun _ _ => rfl⟩, fun _ h => h⟩
    | succ i => simp at hi
  · intro i j hi hj hne h1 h2
    cases i <;> cases j <;> simp_all
end Go.RX
