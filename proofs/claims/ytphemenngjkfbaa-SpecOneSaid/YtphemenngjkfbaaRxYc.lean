/- A reflective symbolic executor, part 25c: regions whose order is drawn: each step. -/
import Derived.Test.YtphemenngjkfbaaRxYb
namespace Go.RX

theorem testBit_set (done i j : Nat) : (done ||| (1 <<< i)).testBit j = (done.testBit j || decide (i = j)) := by
  rw [Nat.testBit_or, Nat.one_shiftLeft, Nat.testBit_two_pow]

theorem snoc_cases {α : Type} {W : List α} {x : α} {W1 : List α} {y : α} {W2 : List α} (h : W ++ [x] = W1 ++ y :: W2) : (W2 = [] ∧ y = x ∧ W1 = W) ∨ ∃ W2', W2 = W2' ++ [x] ∧ W = W1 ++ y :: W2' := by
  rcases List.eq_nil_or_concat W2 with rfl | ⟨W2', z, rfl⟩
  · left
    have := List.append_inj' h rfl
    exact ⟨rfl, by simpa using this.2.symm, this.1.symm⟩
  · right
    have h' : W ++ [x] = (W1 ++ y :: W2') ++ [z] := by rw [h]; simp [List.concat_eq_append]
    have := List.append_inj' h' rfl
    have hz : x = z := by simpa using this.2
    subst hz
    exact ⟨W2', by simp [List.concat_eq_append], this.1⟩

theorem readyB_spec {all : Array Oper} {done i : Nat} (h : readyB all done i = true) : ∃ o, all[i]? = some o ∧ ∀ e ∈ o.after, Region.binds .any e = true → done.testBit e.on = true := by
  unfold readyB at h
  split at h
  · rename_i o ho
    refine ⟨o, ho, fun e he hb => ?_⟩
    have := List.all_eq_true.1 h e (by simpa using he)
    simpa [hb] using this
  · cases h
theorem readyB_of {all : Array Oper} {done i : Nat} {o : Oper} (ho : all[i]? = some o) (h : ∀ e ∈ o.after, Region.binds .any e = true → done.testBit e.on = true) : readyB all done i = true := by
  unfold readyB
  simp only [ho]
  refine List.all_eq_true.2 fun e he => ?_
  cases hb : Region.binds .any e with
  | false => rfl
  | true => rw [h e (by simpa using he) hb]; rfl

section
variable {P : Program} {C : Ctx} {Post : Value → List HP → Prop} {Fs : List HP} {w0 : World} {all : Array Oper} {pm : List Nat}
variable {ro : Option Nat} {nt : NT} {a0 : Act} {listed : Array Bool} {a : Act} {w : World} {rest : List Nat} {done : Nat} {log : List (Nat × List Nat)} {st : St} {ρ : Env} {W : List Wr}

/-- An operation that looks, met in the formula: it waits. -/
theorem DI.quiet (hT : checkT P C.T = true) (h : DI P Fs w0 all ro nt a0 listed a w rest done log st ρ W) {i : Nat} {o : Oper} (hir : i ∈ rest) (hrd : readyB all done i = true) (hi : all[i]? = some o) (hdst : okDst st o.dst = true)
    {g : Option BE} {res : Res} (hg : guardAt all (restrict st.fr (slotsOf all o)) st.known o = some g) (hgs : gsc st.cnt g = true)
    (hr : stepQ C g { st with fr := restrict st.fr (slotsOf all o) } o = some res) (he : res.eff = .none) (hvc : gden ρ g = true → ∀ b ∈ res.vcs, b.prop ρ) :
    DI P Fs w0 all ro nt a0 listed a w (rest.filter fun j => j != i) (done ||| (1 <<< i)) ((i, res.rd) :: log)
      (({ st with known := gknown g res.vcs st.known } : St).put o.dst (gval g res.val)) ρ
      (W ++ [(i, o.dst, if gden ρ g then res.val.val ρ else undef)]) := by
  have hrsc : res.sc st.cnt = true := by
    rcases stepQ_spec hr with ⟨_, rfl⟩ | hr
    · rfl
    · exact (stepVal_spec hr).2
  have hrsc' := hrsc
  simp only [Res.sc, Bool.and_eq_true, he, Eff.grow] at hrsc'
  obtain ⟨⟨hs1, hs2⟩, _⟩ := hrsc'
  have hiW : i ∉ W.map (·.1) := ((h.rest i).1 hir).2
  have hnl : lst listed i = false := by
    cases hl : lst listed i with
    | false => rfl
    | true => exact absurd (h.sub i hl) hiW
  have hv : (if gden ρ g = true then res.val.val ρ else undef) = (gval g res.val).val ρ := by
    cases g with
    | none => rfl
    | some c => rfl
  have hsc : (gval g res.val).sc st.cnt = true := by
    cases g with
    | none => exact hs1
    | some c => simp only [gval, SV.sc, Bool.and_eq_true]; exact ⟨hgs, hs1⟩
  have hw1 : HW Fs w0 ({ st with known := gknown g res.vcs st.known } : St) ρ w := by
    cases g with
    | some c => exact h.hw
    | none =>
      refine ⟨h.hw.lens, h.hw.scf, h.hw.sch, ?_, fun b hb => ?_, h.hw.own, h.hw.same, h.hw.scd⟩
      · show (more res.vcs st.known).all (BE.sc st.cnt) = true
        unfold more
        rw [List.all_append, h.hw.sck, Bool.and_true]
        exact List.all_eq_true.2 fun x hx => List.all_eq_true.1 hs2 x (List.mem_filter.1 hx).1
      · exact (List.mem_append.1 hb).elim (fun hm => hvc rfl b (List.mem_filter.1 hm).1) (h.hw.kn b)
  have e := put_rest ({ st with known := gknown g res.vcs st.known } : St) o.dst (gval g res.val)
  refine ⟨hw1.put hsc, by rw [e.2.2.2.1]; exact h.hnt, ?_, ?_, ?_, ?_, ?_, ?_, h.lsz, h.clL, ?_, ?_⟩
  · rw [List.filter_append, List.filter_cons_of_neg (by simp [hnl]), List.filter_nil, List.append_nil]
    exact h.act
  · rw [puts_append, puts_one]
    refine HA.put h.ha (fun x hx => ?_) hv _ rfl
    rw [← h.hnt]
    exact okDst_lt hdst x hx
  · rw [List.map_append, List.nodup_append]
    exact ⟨h.nd, by simp, fun x hx y hy => by
      simp only [List.map_cons, List.map_nil, List.mem_singleton] at hy
      subst hy
      intro hxy
      subst hxy
      exact hiW hx⟩
  · intro j
    rw [testBit_set, Bool.or_eq_true, h.done, List.map_append, List.mem_append]
    simp only [decide_eq_true_eq, List.map_cons, List.map_nil, List.mem_singleton]
    exact ⟨fun hj => hj.imp id Eq.symm, fun hj => hj.imp id Eq.symm⟩
  · intro j
    rw [List.mem_filter, h.rest, List.map_append, List.mem_append]
    simp only [bne_iff_ne, ne_eq, List.map_cons, List.map_nil, List.mem_singleton, not_or, and_assoc]
  · intro j hj
    rw [List.map_append]
    exact List.mem_append_left _ (h.sub j hj)
  · intro W1 x W2 hW
    rcases snoc_cases hW with ⟨rfl, rfl, rfl⟩ | ⟨W2', rfl, hW'⟩
    · obtain ⟨o', ho', hpre⟩ := readyB_spec hrd
      rw [hi] at ho'
      cases ho'
      exact ⟨o, hi, rfl, fun e he hb => (h.done _).1 (hpre e he hb)⟩
    · exact h.clW W1 x W2' hW'
  · intro W1 x W2 hW hnlx
    rcases snoc_cases hW with ⟨rfl, rfl, rfl⟩ | ⟨W2', rfl, hW'⟩
    · refine ⟨o, res.rd, st.hp, ρ, hi, List.mem_cons_self, ?_, fun j _ ck hck => ⟨ck, by rw [e.1]; exact hck, rfl⟩⟩
      exact quiet_will hT hi hg hr he h.hw.kn h.hw.lens hvc (h.ha)
    · obtain ⟨o', rd, hp, ρ', h1, h2, h3, h4⟩ := h.pend W1 x W2' hW' hnlx
      exact ⟨o', rd, hp, ρ', h1, List.mem_cons_of_mem _ h2, h3, by rw [e.1]; exact h4⟩

theorem lst_set {listed : Array Bool} {i j : Nat} (hi : i < listed.size) : lst (listed.setIfInBounds i true) j = (decide (i = j) || lst listed j) := by
  unfold lst
  by_cases h : i = j
  · subst h
    simp [Array.getElem?_setIfInBounds_self_of_lt hi]
  · rw [getD_set_ne false h]
    simp [h]

/-- One that has waited comes up. -/
theorem DI.pending (h : DI P Fs w0 all ro nt a0 listed a w rest done log st ρ W) (hord : orderedB all pm = true) (hpm : pmOk all pm = true) {i : Nat} {o : Oper} (hi : all[i]? = some o) (hnl : lst listed i = false)
    (hready : ∀ e ∈ o.after, Region.binds .any e = true → lst listed e.on = true) (hiW : i ∈ W.map (·.1)) (Q : Exit → Act → World → Prop) (K : Act → World → Prop)
    (hK : ∀ a', DI P Fs w0 all ro nt a0 (listed.setIfInBounds i true) a' w rest done log st ρ W → K a' w) : wpOpIn (FW ro) 0 P all Q i K a w := by
  obtain ⟨x, hx, rfl⟩ := List.mem_map.1 hiW
  obtain ⟨W1, W2, hW⟩ := List.append_of_mem hx
  obtain ⟨o', rd, hp, ρ', h1, h2, h3, h4⟩ := h.pend W1 x W2 hW hnl
  rw [hi] at h1
  cases h1
  have hnd := h.nd
  rw [hW] at hnd
  simp only [List.map_append, List.map_cons] at hnd
  rw [List.nodup_append] at hnd
  obtain ⟨hnd1, hnd2, hnd3⟩ := hnd
  have hni : x.1 ∉ W1.map (·.1) := fun hc => hnd3 _ hc _ List.mem_cons_self rfl
  have hni2 : x.1 ∉ W2.map (·.1) := (List.nodup_cons.1 hnd2).1
  have hil : x.1 < listed.size := by rw [h.lsz]; exact (Array.getElem?_eq_some_iff.1 hi).1
  obtain ⟨S, hS⟩ := h.hw.own
  have hdst : x.2.1 = o.dst := by
    obtain ⟨o2, ho2, hd2, _⟩ := h.clW W1 x W2 hW
    rw [hi] at ho2
    cases ho2
    exact hd2
  refine h3 a w S K Q (fun s hs => ?_) ?_ ?_ ?_ (hK _ ?_)
  · rw [h.act, hW]
    refine agree_slots (fun y hy hys => h.before hord hpm hi hready hW hni (.inl hs) y hy hys) fun y hy hys => ?_
    rcases List.mem_cons.1 hy with rfl | hy
    · exact hnl
    · exact h.behind hord hpm hi hnl hW (.inl hs) y hy hys
  · rw [h.act, puts_defers, puts_defers]
  · rw [h.act, puts_size, ← puts_size W]; exact h.ha.size
  · intro j hj ck hck
    obtain ⟨ck', hck', hden⟩ := h4 j hj ck hck
    rw [← hden]
    exact Reads_of S hS rd j hj ck' hck'
  · have hlst : ∀ j, lst (listed.setIfInBounds x.1 true) j = (decide (x.1 = j) || lst listed j) := fun j => lst_set hil
    refine ⟨h.hw, h.hnt, ?_, h.ha, h.nd, h.done, h.rest, fun j hj => ?_, by simp [h.lsz], fun p op hop hp e he hb => ?_, h.clW, fun A y B hWy hny => ?_⟩
    · have f1 : W1.filter (fun y => lst (listed.setIfInBounds x.1 true) y.1) = W1.filter (fun y => lst listed y.1) := List.filter_congr fun y hy => by
        have : x.1 ≠ y.1 := fun e => hni (by rw [e]; exact List.mem_map.2 ⟨y, hy, rfl⟩)
        rw [hlst]; simp [this]
      have f2 : W2.filter (fun y => lst (listed.setIfInBounds x.1 true) y.1) = W2.filter (fun y => lst listed y.1) := List.filter_congr fun y hy => by
        have : x.1 ≠ y.1 := fun e => hni2 (by rw [e]; exact List.mem_map.2 ⟨y, hy, rfl⟩)
        rw [hlst]; simp [this]
      rw [h.act, hW, List.filter_append, List.filter_append, f1, List.filter_cons_of_neg (by simp [hnl]), List.filter_cons_of_pos (by rw [hlst]; simp), f2, puts_append, puts_append]
      have : x :: W2.filter (fun y => lst listed y.1) = [(x.1, x.2.1, x.2.2)] ++ W2.filter (fun y => lst listed y.1) := rfl
      rw [this, puts_append, puts_one, puts_comm, hdst]
      intro y hy s hs hys
      obtain ⟨hy1, hy2⟩ := List.mem_filter.1 hy
      have := h.behind hord hpm hi hnl hW (.inr (hdst ▸ hs)) y hy1 hys
      rw [this] at hy2
      cases hy2
    · rw [hlst, Bool.or_eq_true] at hj
      rcases hj with hj | hj
      · rw [← of_decide_eq_true hj]; exact hiW
      · exact h.sub j hj
    · rw [hlst, Bool.or_eq_true] at hp ⊢
      rcases hp with hp | hp
      · have := of_decide_eq_true hp
        subst this
        rw [hi] at hop
        cases hop
        exact .inr (hready e he hb)
      · exact .inr (h.clL p op hop hp e he hb)
    · rw [hlst, Bool.or_eq_false_iff] at hny
      exact h.pend A y B hWy hny.2
end
end Go.RX
