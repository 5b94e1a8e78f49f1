/- A reflective symbolic executor: predicates put together to one, and in another order; frames of contracts. -/
import Derived.Test.YtphemenngjkfbaaRxZg
namespace Go.RX

theorem perm_inj {α : Type} {a b : List α} (h : a.Perm b) : ∃ f : Nat → Nat, (∀ i j, f i = f j → i = j) ∧ ∀ (j : Nat) x, b[j]? = some x → a[f j]? = some x := by
  induction h with
  | nil => exact ⟨id, fun _ _ h => h, fun _ _ h => h⟩
  | cons x _ ih =>
    obtain ⟨f, h1, h2⟩ := ih
    refine ⟨fun j => match j with | 0 => 0 | j + 1 => f j + 1, fun i j h => ?_, fun j y hy => ?_⟩
    · cases i <;> cases j <;> simp at h ⊢
      exact h1 _ _ h
    · cases j with
      | zero => simpa using hy
      | succ j => simpa using h2 j y (by simpa using hy)
  | swap x y l =>
    refine ⟨fun j => match j with | 0 => 1 | 1 => 0 | j + 2 => j + 2, fun i j h => ?_, fun j z hz => ?_⟩
    · match i, j, h with
      | 0, 0, _ => rfl
      | 1, 1, _ => rfl
      | 0, 1, h => simp at h
      | 1, 0, h => simp at h
      | 0, j + 2, h => simp at h
      | 1, j + 2, h => simp at h
      | i + 2, 0, h => simp at h
      | i + 2, 1, h => simp at h
      | i + 2, j + 2, h => simpa using h
    · match j, hz with
      | 0, hz => simpa using hz
      | 1, hz => simpa using hz
      | j + 2, hz => simpa using hz
  | trans _ _ ih1 ih2 =>
    obtain ⟨f, f1, f2⟩ := ih1
    obtain ⟨g, g1, g2⟩ := ih2
    exact ⟨fun j => f (g j), fun i j h => g1 _ _ (f1 _ _ h), fun j x hx => f2 _ _ (g2 _ _ hx)⟩
theorem Owns.perm {a b : List HP} {w : World} (h : Owns a w) (hp : a.Perm b) : Owns b w := by
  obtain ⟨f, h1, h2⟩ := perm_inj hp
  refine h.pick' (fun j => some (f j)) (fun j x hx => .inr ⟨f j, rfl, h2 j x hx⟩) ?_
  intro j j' i hj hj' _ _
  cases hj
  simp only [Option.some.injEq] at hj'
  exact h1 _ _ hj'.symm
theorem Ent.perm {a b : List HP} (h : a.Perm b) : Ent a b := fun _ _ o => o.perm (h.append_right _)
theorem Ent.frame {a b : List HP} (h : Ent a b) (r : List HP) : Ent (a ++ r) (b ++ r) := fun w Fs o => by
  rw [List.append_assoc] at o ⊢
  exact h w (r ++ Fs) o

theorem Meets.frame {P : Program} {f : Nat} {args : List Value} {pre : List HP} {post : Value → List HP → Prop} (h : Meets P f args pre post) (r : List HP) :
    Meets P f args (pre ++ r) fun v hs => ∃ hs0, hs = hs0 ++ r ∧ post v hs0 := by
  intro w Fs o
  rw [List.append_assoc] at o
  refine (h w (r ++ Fs) o).mono ?_
  rintro e w' ⟨v, hs, he, hp, ho, hs'⟩
  exact ⟨v, hs ++ r, he, ⟨hs, rfl, hp⟩, by rw [List.append_assoc]; exact ho, hs'⟩

/-- Predicates side by side, as one. -/
def HP.star (l : List HP) : HP where
  wr := true
  p w S := ∃ T, Sep l T w ∧ ∀ k, S k ↔ ∃ i, i < l.length ∧ T i k
  stable w w' S h hk := by
    obtain ⟨T, hT, hS⟩ := h
    refine ⟨T, ⟨fun i x hx => ?_, hT.apart⟩, hS⟩
    have hlt : i < l.length := (List.getElem?_eq_some_iff.1 hx).1
    obtain ⟨hp, hb⟩ := hT.at_ i x hx
    refine ⟨x.stable w w' _ hp fun k hk' => hk k ((hS k).2 ⟨i, hlt, hk'⟩), fun k hk' => ?_⟩
    have := hk k ((hS k).2 ⟨i, hlt, hk'⟩)
    have hsz := hb k hk'
    rw [Array.getElem?_eq_getElem hsz] at this
    exact (Array.getElem?_eq_some_iff.1 this).1

theorem Ent.unstar (l : List HP) : Ent [HP.star l] l := by
  intro w Fs ⟨S, hS⟩
  obtain ⟨⟨T, hT, hTS⟩, hb⟩ := hS.at_ 0 (HP.star l) rfl
  refine ⟨fun i => if i < l.length then T i else S (i - l.length + 1), ⟨?_, ?_⟩⟩
  · intro i x hx
    by_cases hi : i < l.length
    · rw [List.getElem?_append_left hi] at hx
      simp only [hi, if_true]
      exact hT.at_ i x hx
    · rw [List.getElem?_append_right (by omega)] at hx
      simp only [hi, if_false]
      exact hS.at_ (i - l.length + 1) x (by simpa using hx)
  · intro i j x y hne hx hy hw k
    by_cases hi : i < l.length <;> by_cases hj : j < l.length
    · rw [List.getElem?_append_left hi] at hx
      rw [List.getElem?_append_left hj] at hy
      simp only [hi, hj, if_true]
      exact hT.apart i j x y hne hx hy hw k
    · rw [List.getElem?_append_right (by omega)] at hy
      simp only [hi, hj, if_true, if_false]
      intro h1
      exact hS.apart 0 (j - l.length + 1) (HP.star l) y (by omega) rfl (by simpa using hy) (.inl rfl) k ((hTS k).2 ⟨i, hi, h1⟩)
    · rw [List.getElem?_append_right (by omega)] at hx
      simp only [hi, hj, if_true, if_false]
      intro h1 h2
      exact hS.apart 0 (i - l.length + 1) (HP.star l) x (by omega) rfl (by simpa using hx) (.inl rfl) k ((hTS k).2 ⟨j, hj, h2⟩) h1
    · rw [List.getElem?_append_right (by omega)] at hx hy
      simp only [hi, hj, if_false]
      exact hS.apart (i - l.length + 1) (j - l.length + 1) x y (by omega) (by simpa using hx) (by simpa using hy) hw k

theorem Ent.star {l : List HP} (hw : ∀ h ∈ l, h.wr = true) : Ent l [HP.star l] := by
  intro w Fs ⟨S, hS⟩
  refine ⟨fun i => if i = 0 then fun k => ∃ j, j < l.length ∧ S j k else S (i - 1 + l.length), ⟨?_, ?_⟩⟩
  · intro i x hx
    by_cases hi : i = 0
    · subst hi
      simp at hx
      subst hx
      simp only [if_true]
      refine ⟨⟨S, ⟨fun i x hx => ?_, fun i j x y hne hx hy => ?_⟩, fun k => Iff.rfl⟩, ?_⟩
      · exact hS.at_ i x (by rw [List.getElem?_append_left (List.getElem?_eq_some_iff.1 hx).1]; exact hx)
      · exact hS.apart i j x y hne (by rw [List.getElem?_append_left (List.getElem?_eq_some_iff.1 hx).1]; exact hx) (by rw [List.getElem?_append_left (List.getElem?_eq_some_iff.1 hy).1]; exact hy)
      · rintro k ⟨j, hj, hk⟩
        exact (hS.at_ j (l[j]'hj) (by rw [List.getElem?_append_left hj]; exact List.getElem?_eq_getElem hj)).2 k hk
    · have e : i = (i - 1) + 1 := by omega
      rw [e] at hx
      simp only [hi, if_false]
      exact hS.at_ (i - 1 + l.length) x (by rw [List.getElem?_append_right (by omega), show i - 1 + l.length - l.length = i - 1 by omega]; simpa using hx)
  · have key : ∀ (i : Nat) (x : HP), i ≠ 0 → ([HP.star l] ++ Fs)[i]? = some x → (l ++ Fs)[i - 1 + l.length]? = some x := by
      intro i x hi hx
      have e : i = (i - 1) + 1 := by omega
      rw [e] at hx
      rw [List.getElem?_append_right (by omega), show i - 1 + l.length - l.length = i - 1 by omega]
      simpa using hx
    have cross : ∀ (j : Nat) (y : HP) (k : Nat), j ≠ 0 → ([HP.star l] ++ Fs)[j]? = some y → (∃ m, m < l.length ∧ S m k) → ¬ S (j - 1 + l.length) k := by
      rintro j y k hj hy ⟨m, hm, hk⟩
      exact hS.apart m (j - 1 + l.length) (l[m]'hm) y (by omega) (by rw [List.getElem?_append_left hm]; exact List.getElem?_eq_getElem hm) (key j y hj hy) (.inl (hw _ (List.getElem_mem hm))) k hk
    intro i j x y hne hx hy hwr k
    by_cases hi : i = 0 <;> by_cases hj : j = 0
    · omega
    · simp only [hi, hj, if_true, if_false]
      exact cross j y k hj hy
    · simp only [hi, hj, if_true, if_false]
      exact fun h1 h2 => cross i x k hi hx h2 h1
    · simp only [hi, hj, if_false]
      exact hS.apart _ _ x y (by omega) (key i x hi hx) (key j y hj hy) hwr k
theorem Ent.idx' {a b : List HP} (idx : List Nat) (hnd : idx.Nodup) (h : ∀ (j : Nat) x, b[j]? = some x → ∃ i, idx[j]? = some i ∧ a[i]? = some x) : Ent a b := by
  intro w Fs o
  refine o.pick' (fun j => if j < b.length then idx[j]? else some (a.length + (j - b.length))) ?_ ?_
  · intro j x hx
    right
    by_cases hj : j < b.length
    · rw [List.getElem?_append_left hj] at hx
      obtain ⟨i, h1, h2⟩ := h j x hx
      refine ⟨i, by simp only [hj, if_true, h1], ?_⟩
      rw [List.getElem?_append_left (List.getElem?_eq_some_iff.1 h2).1]
      exact h2
    · rw [List.getElem?_append_right (by omega)] at hx
      refine ⟨_, by simp only [hj, if_false]; rfl, ?_⟩
      rw [List.getElem?_append_right (by omega), Nat.add_sub_cancel_left]
      exact hx
  · intro j j' i hj hj' _ _
    by_cases h1 : j < b.length
    · have hx : b[j]? = some b[j] := List.getElem?_eq_getElem h1
      obtain ⟨i1, q1, q2⟩ := h j _ hx
      have hi1 := (List.getElem?_eq_some_iff.1 q2).1
      simp only [h1, if_true, q1, Option.some.injEq] at hj
      subst hj
      by_cases h2 : j' < b.length
      · simp only [h2, if_true] at hj'
        obtain ⟨l1, e1⟩ := List.getElem?_eq_some_iff.1 q1
        obtain ⟨l2, e2⟩ := List.getElem?_eq_some_iff.1 hj'
        exact (List.getElem_inj hnd).1 (e1.trans e2.symm)
      · simp only [h2, if_false, Option.some.injEq] at hj'
        omega
    · simp only [h1, if_false, Option.some.injEq] at hj
      by_cases h2 : j' < b.length
      · have hx : b[j']? = some b[j'] := List.getElem?_eq_getElem h2
        obtain ⟨i1, q1, q2⟩ := h j' _ hx
        have hi1 := (List.getElem?_eq_some_iff.1 q2).1
        simp only [h2, if_true, q1, Option.some.injEq] at hj'
        omega
      · simp only [h2, if_false, Option.some.injEq] at hj'
        omega
end Go.RX
