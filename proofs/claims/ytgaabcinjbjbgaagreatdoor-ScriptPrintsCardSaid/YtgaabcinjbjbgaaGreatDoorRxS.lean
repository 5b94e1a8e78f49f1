/- A reflective symbolic executor, part 19: ownership, step by step. -/
import Derived.Test.YtgaabcinjbjbgaaGreatDoorRxR
namespace Go.RX

/-- Predicates taken from others, each once; or of nothing. -/
theorem Owns.pick' {hs hs' : List HP} {w : World} (h : Owns hs w) (f : Nat → Option Nat)
    (he : ∀ (j : Nat) x, hs'[j]? = some x → (f j = none ∧ x = HP.emp) ∨ ∃ i, f j = some i ∧ hs[i]? = some x)
    (hinj : ∀ (j j' i : Nat), f j = some i → f j' = some i → j < hs'.length → j' < hs'.length → j = j') : Owns hs' w := by
  obtain ⟨S, hS⟩ := h
  refine ⟨fun j k => match f j with | some i => S i k | none => False, ⟨?_, ?_⟩⟩
  · intro j x hx
    rcases he j x hx with ⟨hf, rfl⟩ | ⟨i, hf, hi⟩
    · simp only [hf]
      exact ⟨fun k hk => hk, fun k hk => hk.elim⟩
    · simp only [hf]
      exact hS.at_ i x hi
  · intro j j' x y hne hx hy hw k
    rcases he j x hx with ⟨hf, rfl⟩ | ⟨i, hf, hi⟩
    · simp only [hf]; exact fun h => h.elim
    · rcases he j' y hy with ⟨hf', rfl⟩ | ⟨i', hf', hi'⟩
      · simp only [hf']; exact fun _ h => h
      · simp only [hf, hf']
        refine hS.apart i i' x y ?_ hi hi' hw k
        intro e
        subst e
        exact hne (hinj j j' i hf hf' (List.getElem?_eq_some_iff.1 hx).1 (List.getElem?_eq_some_iff.1 hy).1)

theorem Owns.emp_mid {a b : List HP} {w : World} (h : Owns (a ++ b) w) : Owns (a ++ [HP.emp] ++ b) w := by
  refine h.pick' (fun j => if j < a.length then some j else if j = a.length then none else some (j - 1)) ?_ ?_
  · intro j x hx
    by_cases h1 : j < a.length
    · right
      refine ⟨j, by simp [h1], ?_⟩
      rw [List.append_assoc, List.getElem?_append_left h1] at hx
      rw [List.getElem?_append_left h1]; exact hx
    · by_cases h2 : j = a.length
      · left
        subst h2
        refine ⟨by simp, ?_⟩
        simp at hx
        exact hx.symm
      · right
        refine ⟨j - 1, by simp [h1, h2], ?_⟩
        rw [List.getElem?_append_right (by simp; omega)] at hx
        rw [List.getElem?_append_right (by omega)]
        simp only [List.length_append, List.length_cons, List.length_nil] at hx
        rw [show j - 1 - a.length = j - (a.length + (0 + 1)) by omega]
        exact hx
  · intro j j' i hj hj' _ _
    split at hj <;> split at hj'
    · simp_all
    · split at hj'
      · cases hj'
      · simp only [Option.some.injEq] at hj hj'; omega
    · split at hj
      · cases hj
      · simp only [Option.some.injEq] at hj hj'; omega
    · split at hj
      · cases hj
      · split at hj'
        · cases hj'
        · simp only [Option.some.injEq] at hj hj'; omega

theorem set_mid {α : Type} (a b : List α) (x y : α) : (a ++ [x] ++ b).set a.length y = a ++ [y] ++ b := by
  simp 

/-- A predicate on new blocks. -/
theorem Owns.add {a b : List HP} {w w' : World} (h : Owns (a ++ b) w) (h' : HP) (S' : Nat → Prop) (hsize : w.heap.size ≤ w'.heap.size)
    (hkeep : ∀ k, k < w.heap.size → w'.heap[k]? = w.heap[k]?) (hp : h'.p w' S') (hsub : ∀ k, S' k → w.heap.size ≤ k ∧ k < w'.heap.size) : Owns (a ++ [h'] ++ b) w' := by
  obtain ⟨S, hS⟩ := h.emp_mid
  have := hS.new a.length h' (by simp) S' hsize hkeep hp hsub
  rw [set_mid] at this
  exact ⟨_, this⟩

/-- One of the predicates becomes another. -/
theorem Owns.step {a b : List HP} {w w' : World} {S : Nat → Nat → Prop} (h : Sep (a ++ b) S w) (i : Nat) (h0 h' : HP) (hi : a[i]? = some h0) (hw : h0.wr = true)
    (S' : Nat → Prop) (hsize : w.heap.size ≤ w'.heap.size) (hkeep : ∀ k, k < w.heap.size → ¬ S i k → w'.heap[k]? = w.heap[k]?)
    (hp : h'.p w' S') (hsub : ∀ k, S' k → S i k ∨ (w.heap.size ≤ k ∧ k < w'.heap.size)) : Owns (a.set i h' ++ b) w' := by
  have hlt : i < a.length := (List.getElem?_eq_some_iff.1 hi).1
  have := h.step i h0 h' (by rw [List.getElem?_append_left hlt]; exact hi) hw S' hsize hkeep hp hsub
  rw [List.set_append_left _ _ hlt] at this
  exact ⟨_, this⟩

/-- One is taken out, ahead. -/
theorem Owns.take1 {acc hp Fs : List HP} {w : World} (h : Owns (acc ++ (hp ++ Fs)) w) (i : Nat) (c : HP) (hi : hp[i]? = some c) :
    Owns ((acc ++ [c]) ++ (hp.set i HP.emp ++ Fs)) w := by
  have hlt : i < hp.length := (List.getElem?_eq_some_iff.1 hi).1
  refine h.pick' (fun j => if j < acc.length then some j else if j = acc.length then some (acc.length + i) else if j = acc.length + 1 + i then none else some (j - 1)) ?_ ?_
  · intro j x hx
    by_cases h1 : j < acc.length
    · right
      refine ⟨j, by simp [h1], ?_⟩
      rw [List.append_assoc, List.getElem?_append_left h1] at hx
      rw [List.getElem?_append_left h1]; exact hx
    · by_cases h2 : j = acc.length
      · right
        subst h2
        refine ⟨acc.length + i, by simp, ?_⟩
        rw [List.append_assoc, List.getElem?_append_right (Nat.le_refl _), Nat.sub_self] at hx
        simp only [List.cons_append, List.nil_append, List.getElem?_cons_zero, Option.some.injEq] at hx
        subst hx
        rw [List.getElem?_append_right (by omega), List.getElem?_append_left (by omega)]
        rw [show acc.length + i - acc.length = i by omega]; exact hi
      · rw [List.getElem?_append_right (by simp; omega)] at hx
        simp only [List.length_append, List.length_cons, List.length_nil] at hx
        by_cases h3 : j = acc.length + 1 + i
        · left
          subst h3
          refine ⟨by simp [h1, h2], ?_⟩
          rw [List.getElem?_append_left (by simp; omega), show acc.length + 1 + i - (acc.length + (0 + 1)) = i by omega, List.getElem?_set_self hlt] at hx
          cases hx; rfl
        · right
          refine ⟨j - 1, by simp [h1, h2, h3], ?_⟩
          rw [List.getElem?_append_right (by omega)]
          rw [List.getElem?_append] at hx ⊢
          simp only [List.length_set] at hx
          rw [show j - 1 - acc.length = j - (acc.length + (0 + 1)) by omega]
          split at hx
          · rename_i h4
            rw [List.getElem?_set_ne (by omega)] at hx
            rw [if_pos h4]; exact hx
          · rename_i h4
            rw [if_neg h4]; exact hx
  · intro j j' k hj hj' hl hl'
    have key : ∀ j, (if j < acc.length then some j else if j = acc.length then some (acc.length + i) else if j = acc.length + 1 + i then none else some (j - 1)) = some k →
        (j < acc.length ∧ k = j) ∨ (j = acc.length ∧ k = acc.length + i) ∨ (acc.length < j ∧ j ≠ acc.length + 1 + i ∧ k = j - 1) := by
      intro j h
      split at h
      · left; simp at h; omega
      · split at h
        · right; left; simp at h; omega
        · split at h
          · cases h
          · right; right; simp at h; omega
    rcases key j hj with h | h | h <;> rcases key j' hj' with h' | h' | h' <;> omega

/-- One is put back in an empty place. -/
theorem Owns.put1 {new hp Fs : List HP} {c : HP} {w : World} (h : Owns ((c :: new) ++ (hp ++ Fs)) w) (i : Nat) (hi : i < hp.length) :
    Owns (new ++ (hp.set i c ++ Fs)) w := by
  refine h.pick' (fun j => if j = new.length + i then some 0 else some (j + 1)) ?_ ?_
  · intro j x hx
    right
    by_cases h1 : j = new.length + i
    · refine ⟨0, by simp [h1], ?_⟩
      subst h1
      rw [List.getElem?_append_right (by omega), show new.length + i - new.length = i by omega, List.getElem?_append_left (by simpa using hi), List.getElem?_set_self hi] at hx
      simpa using hx
    · refine ⟨j + 1, by simp [h1], ?_⟩
      rw [List.cons_append, List.getElem?_cons_succ]
      rw [List.getElem?_append] at hx ⊢
      split at hx
      · rename_i h2; rw [if_pos h2]; exact hx
      · rename_i h2
        rw [if_neg h2]
        rw [List.getElem?_append] at hx ⊢
        simp only [List.length_set] at hx
        split at hx
        · rename_i h3
          rw [List.getElem?_set_ne (by omega)] at hx
          rw [if_pos h3]; exact hx
        · rename_i h3
          rw [if_neg h3]; exact hx
  · intro j j' k hj hj' _ _
    split at hj <;> split at hj' <;> simp only [Option.some.injEq] at hj hj' <;> omega

theorem Owns.rot {new hp Fs : List HP} {w : World} (h : Owns (new ++ (hp ++ Fs)) w) : Owns ((hp ++ new) ++ Fs) w := by
  refine h.pick' (fun j => if j < hp.length then some (new.length + j) else if j < hp.length + new.length then some (j - hp.length) else some j) ?_ ?_
  · intro j x hx
    right
    by_cases h1 : j < hp.length
    · refine ⟨new.length + j, by simp [h1], ?_⟩
      rw [List.append_assoc, List.getElem?_append_left h1] at hx
      rw [List.getElem?_append_right (by omega), show new.length + j - new.length = j by omega, List.getElem?_append_left h1]; exact hx
    · by_cases h2 : j < hp.length + new.length
      · refine ⟨j - hp.length, by simp [h1, h2], ?_⟩
        rw [List.append_assoc, List.getElem?_append_right (by omega), List.getElem?_append_left (by omega)] at hx
        rw [List.getElem?_append_left (by omega)]; exact hx
      · refine ⟨j, by simp [h1, h2], ?_⟩
        rw [List.append_assoc, List.getElem?_append_right (by omega), List.getElem?_append_right (by omega)] at hx
        rw [List.getElem?_append_right (by omega), List.getElem?_append_right (by omega), show j - new.length - hp.length = j - hp.length - new.length by omega]; exact hx
  · intro j j' k hj hj' _ _
    have key : ∀ j, (if j < hp.length then some (new.length + j) else if j < hp.length + new.length then some (j - hp.length) else some j) = some k →
        (j < hp.length ∧ k = new.length + j) ∨ (hp.length ≤ j ∧ j < hp.length + new.length ∧ k = j - hp.length) ∨ (hp.length + new.length ≤ j ∧ k = j) := by
      intro j h
      split at h
      · left; simp at h; omega
      · split at h
        · right; left; simp at h; omega
        · right; right; simp at h; omega
    rcases key j hj with h | h | h <;> rcases key j' hj' with h' | h' | h' <;> omega

def blank (hp : List HP) (use : List Nat) : List HP := use.foldl (fun h i => h.set i HP.emp) hp
theorem blank_length (use : List Nat) : ∀ hp : List HP, (blank hp use).length = hp.length := by
  induction use with
  | nil => intro hp; rfl
  | cons i r ih => intro hp; show (blank (hp.set i HP.emp) r).length = _; rw [ih]; simp
theorem blank_set (use : List Nat) : ∀ (hp : List HP) (i : Nat) (c : HP), i ∉ use → blank (hp.set i c) use = (blank hp use).set i c := by
  induction use with
  | nil => intro hp i c _; rfl
  | cons j r ih =>
    intro hp i c hi
    simp only [List.mem_cons, not_or] at hi
    show blank ((hp.set i c).set j HP.emp) r = (blank (hp.set j HP.emp) r).set i c
    rw [List.set_comm _ _ hi.1, ih _ _ _ hi.2]

theorem Owns.takeAll : ∀ {use : List Nat} {acc hp Fs : List HP} {w : World}, Owns (acc ++ (hp ++ Fs)) w → use.Nodup → (∀ i ∈ use, i < hp.length) →
    Owns ((acc ++ use.map (fun i => hp.getD i HP.emp)) ++ (blank hp use ++ Fs)) w
  | [], acc, hp, Fs, w, h, _, _ => by simpa [blank] using h
  | i :: r, acc, hp, Fs, w, h, hnd, hlt => by
    have hi := hlt i List.mem_cons_self
    rw [List.nodup_cons] at hnd
    have h1 := h.take1 i (hp.getD i HP.emp) (by rw [List.getD_eq_getElem?_getD]; simp [hi])
    have h2 := Owns.takeAll (use := r) h1 hnd.2 (fun j hj => by simpa using hlt j (List.mem_cons_of_mem _ hj))
    have e : r.map (fun j => (hp.set i HP.emp).getD j HP.emp) = r.map (fun j => hp.getD j HP.emp) := by
      refine List.map_congr_left fun j hj => ?_
      rw [List.getD_eq_getElem?_getD, List.getD_eq_getElem?_getD, List.getElem?_set_ne]
      rintro rfl
      exact hnd.1 hj
    rw [e, List.append_assoc acc] at h2
    exact h2

theorem replL_blank : ∀ (use : List Nat) (hp new : List HP), use.Nodup → replL HP.emp hp use new = replL HP.emp (blank hp use) use new
  | [], hp, new, _ => rfl
  | i :: r, hp, c :: cs, hnd => by
    rw [List.nodup_cons] at hnd
    show replL HP.emp (hp.set i c) r cs = replL HP.emp ((blank (hp.set i HP.emp) r).set i c) r cs
    rw [← blank_set r _ _ _ hnd.1, List.set_set]
    exact replL_blank r _ _ hnd.2
  | i :: r, hp, [], hnd => by
    rw [List.nodup_cons] at hnd
    show replL HP.emp (hp.set i HP.emp) r [] = replL HP.emp ((blank (hp.set i HP.emp) r).set i HP.emp) r []
    rw [← blank_set r _ _ _ hnd.1, List.set_set]
    exact replL_blank r _ _ hnd.2

theorem Owns.putAll : ∀ {use : List Nat} {new hp Fs : List HP} {w : World}, Owns (new ++ (hp ++ Fs)) w → (∀ i ∈ use, i < hp.length) → (∀ i ∈ use, hp[i]? = some HP.emp ∨ True) →
    Owns (replL HP.emp hp use new ++ Fs) w
  | [], new, hp, Fs, w, h, _, _ => h.rot
  | i :: r, c :: cs, hp, Fs, w, h, hlt, _ => by
    have hi := hlt i List.mem_cons_self
    exact Owns.putAll (use := r) (h.put1 i hi) (fun j hj => by simpa using hlt j (List.mem_cons_of_mem _ hj)) fun _ _ => .inr trivial
  | i :: r, [], hp, Fs, w, h, hlt, _ => by
    have hi := hlt i List.mem_cons_self
    have h1 := (Owns.emp_mid (a := []) h)
    exact Owns.putAll (use := r) (new := []) (Owns.put1 (new := []) h1 i hi) (fun j hj => by simpa using hlt j (List.mem_cons_of_mem _ hj)) fun _ _ => .inr trivial

theorem map_replL {α β : Type} (f : α → β) (e : α) : ∀ (use : List Nat) (hp new : List α), (replL e hp use new).map f = replL (f e) (hp.map f) use (new.map f)
  | [], hp, new => by simp [replL]
  | i :: r, hp, c :: cs => by simp only [replL, List.map_cons]; rw [map_replL f e r, List.map_set]
  | i :: r, hp, [] => by simp only [replL, List.map_nil]; rw [map_replL f e r, List.map_set]; rfl

end Go.RX
