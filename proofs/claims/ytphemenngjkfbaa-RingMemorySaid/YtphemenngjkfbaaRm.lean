/- RingMemory: the contracts of the functions that it reaches, and the law itself. -/
import Derived.Test.YtphemenngjkfbaaRmF
namespace Go.RX.Rm
open Go.RX Go.Proofs

/-- x is among the first n. -/
noncomputable def memb (A : Nat → Int) (n x : Int) : Bool := @decide (∃ j : Int, 0 ≤ j ∧ j < n ∧ A j.toNat = x) (Classical.propDecidable _)
theorem memb_true {A : Nat → Int} {n x : Int} : memb A n x = true ↔ ∃ j : Int, 0 ≤ j ∧ j < n ∧ A j.toNat = x := by simp [memb]
theorem memb_congr {A B : Nat → Int} {n x : Int} (h : ∀ j, j < n.toNat → A j = B j) : memb A n x = memb B n x := by
  rw [Bool.eq_iff_iff, memb_true, memb_true]
  constructor
  · rintro ⟨j, h0, h1, h2⟩; exact ⟨j, h0, h1, by rw [← h _ (by omega)]; exact h2⟩
  · rintro ⟨j, h0, h1, h2⟩; exact ⟨j, h0, h1, by rw [h _ (by omega)]; exact h2⟩
/-- What a memory of at most k is when x is noted. -/
noncomputable def noteN (A : Nat → Int) (n k x : Int) : Int := if memb A n x = true then n else if n + 1 ≤ k then n + 1 else k
noncomputable def noteA (A : Nat → Int) (n k x : Int) : Nat → Int := if memb A n x = true then A else if n + 1 ≤ k then updF A n.toNat x else shiftF (updF A n.toNat x) (n + 1 - k).toNat
theorem noteN_le (A : Nat → Int) (n k x : Int) (h0 : 0 ≤ n) (hk : 0 ≤ k) : 0 ≤ noteN A n k x ∧ noteN A n k x ≤ n + 1 := by
  unfold noteN
  split
  · omega
  · split <;> omega

abbrev tab (n : Int) (A : Nat → Int) : List Value := tabL n.toNat [colI .u16 1 A]
theorem tab_congr' {n : Int} {A B : Nat → Int} (h : ∀ j, j < n.toNat → A j = B j) : tab n A = tab n B := tabI_congr h

theorem index_meets (md : Bool) (v : V1) (n x : Int) (A : Nat → Int) (h0 : 0 ≤ n) (h1 : n ≤ 9223372036854775807) :
    Meets Try.prog 104 [v.v, .int .u16 x] [sliHP md 53 1 v.v n.toNat (tab n A)]
      (fun r hs => ∃ k : Int, r = .int .i64 k ∧ hs = [sliHP md 53 1 v.v n.toNat (tab n A)] ∧ (decide (0 ≤ k) = memb A n x)) := by
  refine Meets.of_run (C := cx) (cnt := { i := 2, a := 1, v := 1 }) (ρ := { iv := [n, x], av := [A], vv := [v] }) okT okFT okM Try.func104 (by constructor <;> rfl) (args := [.vv 0, .int .u16 (.var 1)])
    (hp := [.sli md 0 53 1 (.var 0) [⟨.int .u16, 1, .avar 0⟩]]) ?_
  rw [run_index, vc_index]
  unfold st_index
  refine ⟨h0, fun _ => ⟨fun e => 0 ≤ e.i.getD 0 0 ∧ ∀ j : Int, 0 ≤ j → j < e.i.getD 0 0 → A j.toNat ≠ x, fun e => (n - e.i.getD 0 0).toNat, ⟨0, rfl, by simp; omega⟩, ?_⟩⟩
  rintro k ⟨hk0, hk1⟩
  simp only [List.getD_cons_zero] at hk0 hk1
  refine ⟨fun hlt => ⟨hk0, fun _ => ⟨fun he => ⟨k, rfl, rfl, ?_⟩, fun hne => ⟨by omega, fun _ => ⟨by omega, fun _ => ⟨_, rfl, ?_, ?_⟩⟩⟩⟩⟩, fun hge => ⟨-1, rfl, rfl, ?_⟩⟩
  · rw [show memb A n x = true from memb_true.2 ⟨k, hk0, hlt, he.symm⟩]; simpa using hk0
  · simp only [List.getD_cons_zero]
    refine ⟨by omega, fun j h0 h1 => ?_⟩
    by_cases hj : j = k
    · subst hj; exact fun h => hne h.symm
    · exact hk1 j h0 (by omega)
  · simp only [List.getD_cons_zero]; omega
  · have : memb A n x = false := by
      cases hm : memb A n x with
      | false => rfl
      | true =>
        obtain ⟨j, j0, j1, j2⟩ := memb_true.1 hm
        exact absurd j2 (hk1 j j0 (by omega))
    rw [this]; simp

abbrev mem (b : Nat) (v : V1) (k n : Int) (A : Nat → Int) : List HP := [rowHP b true [v.v, .int .i64 k], sliHP true 53 1 v.v n.toNat (tab n A)]

theorem has_meets (b : Nat) (v : V1) (x k n : Int) (A : Nat → Int) (h0 : 0 ≤ n) (h1 : n ≤ 9223372036854775807) :
    Meets Try.prog 30 [.pointer (some ⟨b, 0, none⟩), .int .u16 x] (mem b v k n A) (fun r hs => r = .bool (memb A n x) ∧ hs = mem b v k n A) := by
  refine Meets.of_run (C := cx) (cnt := { i := 3, a := 1, v := 1, b := 1 }) (ρ := { iv := [x, k, n], av := [A], vv := [v], bv := [b] }) okT okFT okM Try.func30 (by constructor <;> rfl) (args := [.ptr 0 0, .int .u16 (.var 0)]) (hp := memHp) ?_
  rw [show runF cx 30 [.ptr 0 0, .int .u16 (.var 0)] memHp { i := 3, a := 1, v := 1, b := 1 } Try.f30 = fm_has from run_has, vc_has]
  unfold st_has
  refine ⟨_, index_meets true v n x A h0 h1, ?_⟩
  rintro r hs ⟨q, rfl, rfl, hq⟩
  exact ⟨q, rfl, rfl, by rw [hq], rfl⟩

theorem note_meets (b : Nat) (v : V1) (x k n : Int) (A : Nat → Int) (h0 : 0 ≤ n) (h1 : n ≤ 1000) (hk0 : 0 ≤ k) (hk1 : k ≤ 9223372036854775807) :
    Meets Try.prog 28 [.pointer (some ⟨b, 0, none⟩), .int .u16 x] (mem b v k n A)
      (fun r hs => ∃ v' : V1, r = undef ∧ hs = mem b v' k (noteN A n k x) (noteA A n k x)) := by
  refine Meets.post (p := fun r hs => ∃ hs', Ent hs hs' ∧ ∃ v' : V1, r = undef ∧ hs' = mem b v' k (noteN A n k x) (noteA A n k x)) ?_ fun v hs h => h
  refine Meets.of_run (C := cx) (cnt := { i := 3, a := 1, v := 1, b := 1 }) (ρ := { iv := [x, k, n], av := [A], vv := [v], bv := [b] }) okT okFT okM Try.func28 (by constructor <;> rfl) (args := [.ptr 0 0, .int .u16 (.var 0)]) (hp := memHp) ?_
  rw [show runF cx 28 [.ptr 0 0, .int .u16 (.var 0)] memHp { i := 3, a := 1, v := 1, b := 1 } Try.f28 = fm_note from run_note, vc_note]
  unfold st_note
  refine ⟨_, index_meets true v n x A h0 (by omega), ?_⟩
  rintro r hs ⟨q, rfl, rfl, hq⟩
  refine ⟨q, rfl, rfl, fun hge => ?_, fun hlt => fun b1 => ⟨h0, fun _ => ⟨by omega, fun _ => fun v1 => ⟨by omega, fun _ => ⟨by omega, fun _ => ⟨by omega, fun _ => ⟨fun hover => ?_, fun hfit => ?_⟩⟩⟩⟩⟩⟩⟩
  · have hm : memb A n x = true := by rw [← hq]; simpa using hge
    refine ⟨_, Ent.refl _, v, rfl, ?_⟩
    simp only [noteN, noteA, hm, if_true]
  · have hm : memb A n x = false := by rw [← hq]; simpa using hlt
    have hN : noteN A n k x = k := by simp only [noteN, hm]; rw [if_neg (by simp), if_neg (by omega)]
    have hA : noteA A n k x = shiftF (updF A n.toNat x) (n + 1 - k).toNat := by simp only [noteA, hm]; rw [if_neg (by simp), if_neg (by omega)]
    refine ⟨by omega, fun _ => ⟨by omega, fun _ => ⟨fun h => by omega, fun _ => ⟨by omega, fun _ => ⟨by omega, fun _ => ⟨by omega, fun _ => ⟨by omega, fun _ => ?_⟩⟩⟩⟩⟩⟩⟩
    have e1 : (n + 1 - (n + 1 - k)) = k := by omega
    rw [e1]
    refine ⟨_, Ent.trans (Ent.put 1 _ (sliHP true 53 1 (subSlice 1 v1.v 0 k.toNat none) k.toNat (tab k (noteA A n k x))) rfl (fun _ => rfl) fun w S h => ⟨S, fun _ h => h, ?_⟩) (Ent.sub (b := mem b ⟨subSlice 1 v1.v 0 k.toNat none, subSlice_one ..⟩ k k (noteA A n k x)) ?_), ⟨subSlice 1 v1.v 0 k.toNat none, subSlice_one ..⟩, rfl, by rw [hN]⟩
    · have := sli_cut h (k := k.toNat) (by omega)
      rw [tabI_take _ _ _ _ (by omega)] at this
      have e2 : tabL k.toNat [colI .u16 1 (splF (splF (updF A n.toNat x) 0 k.toNat (shiftF (updF A n.toNat x) (n + 1 - k).toNat)) k.toNat (n + 1 - k).toNat (fun _ => 0))] = tab k (noteA A n k x) := by
        refine tabI_congr fun i hi => ?_
        rw [hA]
        simp only [splF]
        rw [if_neg (by omega), if_pos (by omega)]
        simp
      rw [← e2]
      exact this
    · exact List.Sublist.cons_cons _ (List.Sublist.cons_cons _ (List.Sublist.cons _ (List.Sublist.slnil)))
  · have hm : memb A n x = false := by rw [← hq]; simpa using hlt
    have hN : noteN A n k x = n + 1 := by simp only [noteN, hm]; rw [if_neg (by simp), if_pos (by omega)]
    have hA : noteA A n k x = updF A n.toNat x := by simp only [noteA, hm]; rw [if_neg (by simp), if_pos (by omega)]
    refine ⟨_, Ent.sub (b := mem b v1 k (n + 1) (updF A n.toNat x)) ?_, v1, rfl, by rw [hN, hA]⟩
    exact List.Sublist.cons_cons _ (List.Sublist.cons_cons _ (List.Sublist.cons _ (List.Sublist.slnil)))

/-- Where the loop that shortens stands: m numbers are left, those behind. -/
theorem rnote_meets (v : V1) (x k n : Int) (A : Nat → Int) (h0 : 0 ≤ n) (h1 : n ≤ 1000) (hk1 : -9223372036854775808 ≤ k) :
    Meets Try.prog 29 [v.v, .int .i64 k, .int .u16 x] [sliHP false 53 1 v.v n.toNat (tab n A)]
      (fun r hs => ∃ v' : V1, r = v'.v ∧ hs = [sliHP false 53 1 v'.v (noteN A n (max k 0) x).toNat (tab (noteN A n (max k 0) x) (noteA A n (max k 0) x))]) := by
  refine Meets.post (p := fun r hs => ∃ hs', Ent hs hs' ∧ ∃ v' : V1, r = v'.v ∧ hs' = [sliHP false 53 1 v'.v (noteN A n (max k 0) x).toNat (tab (noteN A n (max k 0) x) (noteA A n (max k 0) x))]) ?_ fun v hs h => h
  refine Meets.of_run (C := cx) (cnt := { i := 3, a := 1, v := 1 }) (ρ := { iv := [x, k, n], av := [A], vv := [v] }) okT okFT okM Try.func29 (by constructor <;> rfl) (args := [.vv 0, .int .i64 (.var 1), .int .u16 (.var 0)])
    (hp := [.sli false 0 53 1 (.var 2) (colsU (.avar 0))]) ?_
  rw [show runF cx 29 [.vv 0, .int .i64 (.var 1), .int .u16 (.var 0)] [.sli false 0 53 1 (.var 2) (colsU (.avar 0))] { i := 3, a := 1, v := 1 } Try.f29 = fm_rnote from run_rnote, vc_rnote]
  unfold st_rnote
  refine ⟨fun e => 0 ≤ e.i.getD 0 0 ∧ ∀ j : Int, 0 ≤ j → j < e.i.getD 0 0 → A j.toNat ≠ x, fun e => (n - e.i.getD 0 0).toNat, ⟨0, rfl, by simp; omega⟩, ?_⟩
  rintro i ⟨hi0, hi1⟩
  simp only [List.getD_cons_zero] at hi0 hi1
  refine ⟨h0, fun _ => ⟨fun hlt => ⟨hi0, fun _ => ⟨fun he => ?_, fun hne => ⟨by omega, fun _ => ⟨by omega, fun _ => ⟨_, rfl, ?_, ?_⟩⟩⟩⟩⟩, fun hge => ?_⟩⟩
  · have hm : memb A n x = true := memb_true.2 ⟨i, hi0, hlt, he⟩
    refine ⟨_, Ent.refl _, v, rfl, ?_⟩
    simp only [noteN, noteA, hm, if_true]
  · simp only [List.getD_cons_zero]
    refine ⟨by omega, fun j h0 h1 => ?_⟩
    by_cases hj : j = i
    · subst hj; exact hne
    · exact hi1 j h0 (by omega)
  · simp only [List.getD_cons_zero]; omega
  · have hm : memb A n x = false := by
      cases hm : memb A n x with
      | false => rfl
      | true =>
        obtain ⟨j, j0, j1, j2⟩ := memb_true.1 hm
        exact absurd j2 (hi1 j j0 (by omega))
    have hN : noteN A n (max k 0) x = if n + 1 ≤ max k 0 then n + 1 else max k 0 := by simp only [noteN, hm]; rw [if_neg (by simp)]
    have hA : noteA A n (max k 0) x = if n + 1 ≤ max k 0 then updF A n.toNat x else shiftF (updF A n.toNat x) (n + 1 - max k 0).toNat := by simp only [noteA, hm]; rw [if_neg (by simp)]
    intro v1
    refine ⟨by omega, fun _ => fun v2 b0 => ⟨by omega, fun _ => fun v3 => ⟨by omega, fun _ => fun v4 => ?_⟩⟩⟩
    refine ⟨fun e => 0 ≤ e.i.getD 0 0 ∧ e.i.getD 0 0 ≤ n + 1 ∧ (e.i.getD 0 0 = n + 1 ∨ max k 0 ≤ e.i.getD 0 0) ∧
        ∀ j, j < (e.i.getD 0 0).toNat → e.a.getD 0 (fun _ => 0) j = updF A n.toNat x ((n + 1 - e.i.getD 0 0).toNat + j), fun e => (e.i.getD 0 0).toNat, ⟨v4, n + 1, updF A n.toNat x, rfl, rfl, rfl, fun _ _ => rfl, ?_⟩, ?_⟩
    · simp only [List.getD_cons_zero]
      refine ⟨by omega, by omega, .inl trivial, fun j _ => ?_⟩
      rw [show (n + 1 - (n + 1)).toNat = 0 by omega, Nat.zero_add]
    · rintro v5 m B ⟨hm0, hm1, hm2, hm3⟩
      simp only [List.getD_cons_zero] at hm0 hm1 hm2 hm3
      refine ⟨hm0, fun _ => ⟨.inr hm0, fun _ => ⟨fun hc => ?_, fun hc => ?_⟩⟩⟩
      · obtain ⟨hc1, hc2⟩ := hc
        refine ⟨by omega, fun _ => ⟨by omega, fun _ => ⟨by omega, fun _ => fun v6 => ⟨v6, m - 1, shiftF B 1, rfl, rfl, rfl, fun _ _ => rfl, ?_, ?_⟩⟩⟩⟩
        · simp only [List.getD_cons_zero]
          refine ⟨by omega, by omega, .inr (by omega), fun j hj => ?_⟩
          simp only [shiftF]
          rw [hm3 _ (by omega)]
          congr 1
          omega
        · simp only [List.getD_cons_zero]; omega
      · have hmN : m = noteN A n (max k 0) x := by
          rw [hN]
          have : ¬ (0 < m ∧ k < m) := hc
          split <;> omega
        refine ⟨_, Ent.sub (b := [sliHP false 53 1 v5.v m.toNat (tab m B)]) ?_, v5, rfl, ?_⟩
        · exact List.Sublist.cons _ (List.Sublist.cons_cons _ (List.Sublist.cons _ List.Sublist.slnil))
        · rw [← hmN]
          have : tab m B = tab m (noteA A n (max k 0) x) := by
            refine tab_congr' fun j hj => ?_
            rw [hm3 j hj, hA]
            rw [hN] at hmN
            by_cases hfit : n + 1 ≤ max k 0
            · rw [if_pos hfit] at hmN ⊢
              rw [hmN, show (n + 1 - (n + 1)).toNat = 0 by omega, Nat.zero_add]
            · rw [if_neg hfit] at hmN ⊢
              rw [hmN]
              rfl
          rw [this]

theorem memb_zero (A : Nat → Int) (y : Int) : memb A 0 y = false := by
  cases h : memb A 0 y with
  | false => rfl
  | true => obtain ⟨j, h0, h1, _⟩ := memb_true.1 h; omega
theorem memb_succ (A : Nat → Int) (j y : Int) (h0 : 0 ≤ j) : memb A (j + 1) y = (memb A j y || (A j.toNat == y)) := by
  rw [Bool.eq_iff_iff, Bool.or_eq_true, memb_true, memb_true, beq_iff_eq]
  constructor
  · rintro ⟨i, h1, h2, h3⟩
    by_cases h : i = j
    · subst h; exact .inr h3
    · exact .inl ⟨i, h1, by omega, h3⟩
  · rintro (⟨i, h1, h2, h3⟩ | h)
    · exact ⟨i, h1, by omega, h3⟩
    · exact ⟨j, h0, by omega, h⟩

theorem works_ran : (runF cx 13 [] [] {} Try.f13).triv = true := by kernel_rfl
theorem works_meets : Meets Try.prog 13 [] [] (fun v hs => v = .bool true ∧ hs = []) := Meets.triv (C := cx) okT okFT okM Try.func13 works_ran

end Go.RX.Rm
