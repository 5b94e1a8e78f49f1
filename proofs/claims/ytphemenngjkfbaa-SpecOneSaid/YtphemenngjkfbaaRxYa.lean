/- A reflective symbolic executor, part 25a: regions whose order is drawn. -/
import Derived.Test.YtphemenngjkfbaaRxY
namespace Go.RX

/-- Writes, one after the other: who, where, what. -/
abbrev Wr := Nat × Option Nat × Value
def puts (a : Act) (W : List Wr) : Act := W.foldl (fun a x => a.put x.2.1 x.2.2) a

theorem puts_append (a : Act) (x y : List Wr) : puts a (x ++ y) = puts (puts a x) y := List.foldl_append ..
theorem puts_one (a : Act) (i : Nat) (d : Option Nat) (v : Value) : puts a [(i, d, v)] = a.put d v := rfl
theorem put_size (a : Act) (d : Option Nat) (v : Value) : (a.put d v).tmps.size = a.tmps.size := by cases d <;> simp [Act.put]
theorem put_defers (a : Act) (d : Option Nat) (v : Value) : (a.put d v).defers = a.defers := by cases d <;> rfl
theorem puts_size : ∀ (W : List Wr) (a : Act), (puts a W).tmps.size = a.tmps.size
  | [], _ => rfl
  | x :: r, a => by
    show (puts (a.put x.2.1 x.2.2) r).tmps.size = _
    rw [puts_size r, put_size]
theorem puts_defers : ∀ (W : List Wr) (a : Act), (puts a W).defers = a.defers
  | [], _ => rfl
  | x :: r, a => by
    show (puts (a.put x.2.1 x.2.2) r).defers = _
    rw [puts_defers r, put_defers]

theorem put_other (a : Act) (d : Option Nat) (v : Value) (s : Nat) (h : d ≠ some s) : (a.put d v).tmps.getD s undef = a.tmps.getD s undef := by
  cases d with
  | none => rfl
  | some d =>
    have : d ≠ s := fun e => h (by rw [e])
    simp only [Act.put]
    rw [Array.getD_eq_getD_getElem?, Array.getD_eq_getD_getElem?, Array.getElem?_setIfInBounds_ne this]
theorem put_self (a : Act) (d : Nat) (v : Value) (h : d < a.tmps.size) : (a.put (some d) v).tmps.getD d undef = v := by
  simp only [Act.put]
  rw [Array.getD_eq_getD_getElem?, Array.getElem?_setIfInBounds_self_of_lt h]
  rfl
theorem put_same (a b : Act) (d : Option Nat) (v : Value) (s : Nat) (hs : a.tmps.size = b.tmps.size) (h : a.tmps.getD s undef = b.tmps.getD s undef) :
    (a.put d v).tmps.getD s undef = (b.put d v).tmps.getD s undef := by
  by_cases hd : d = some s
  · subst hd
    by_cases hlt : s < a.tmps.size
    · rw [put_self a s v hlt, put_self b s v (by omega)]
    · simp only [Act.put]
      rw [Array.getD_eq_getD_getElem?, Array.getD_eq_getD_getElem?, Array.getElem?_eq_none (by simpa using hlt), Array.getElem?_eq_none (by simp; omega)]
  · rw [put_other a d v s hd, put_other b d v s hd, h]

/-- A slot is what its own writers make it. -/
theorem puts_slot (s : Nat) : ∀ (W : List Wr) (a b : Act), a.tmps.size = b.tmps.size → a.tmps.getD s undef = b.tmps.getD s undef →
    (puts a W).tmps.getD s undef = (puts b (W.filter fun x => x.2.1 == some s)).tmps.getD s undef
  | [], a, b, _, h => h
  | x :: r, a, b, hs, h => by
    show (puts (a.put x.2.1 x.2.2) r).tmps.getD s undef = _
    by_cases hx : x.2.1 = some s
    · rw [List.filter_cons_of_pos (by simpa using hx)]
      show _ = (puts (b.put x.2.1 x.2.2) _).tmps.getD s undef
      exact puts_slot s r _ _ (by rw [put_size, put_size, hs]) (put_same a b _ _ s hs h)
    · rw [List.filter_cons_of_neg (by simpa using hx)]
      exact puts_slot s r _ _ (by rw [put_size, hs]) (by rw [put_other a _ _ s hx, h])

theorem put_comm (a : Act) {d d' : Option Nat} (v v' : Value) (h : ∀ s, d = some s → d' ≠ some s) : (a.put d v).put d' v' = (a.put d' v').put d v := by
  cases d with
  | none => rfl
  | some d =>
    cases d' with
    | none => rfl
    | some d' =>
      have : d ≠ d' := fun e => h d rfl (by rw [e])
      simp only [Act.put]
      rw [Array.setIfInBounds_comm _ _ this]
theorem puts_comm (d : Option Nat) (v : Value) : ∀ (W : List Wr) (a : Act), (∀ x ∈ W, ∀ s, d = some s → x.2.1 ≠ some s) → puts (a.put d v) W = (puts a W).put d v
  | [], _, _ => rfl
  | x :: r, a, h => by
    show puts ((a.put d v).put x.2.1 x.2.2) r = (puts (a.put x.2.1 x.2.2) r).put d v
    rw [put_comm a v x.2.2 (h x List.mem_cons_self)]
    exact puts_comm d v r _ fun y hy => h y (List.mem_cons_of_mem _ hy)

section order
variable {all : Array Oper} {pm : List Nat}

theorem pmOk_spec (h : pmOk all pm = true) {p : Nat} {o : Oper} (ho : all[p]? = some o) :
    (∀ e ∈ o.after, Region.binds .any e = true → e.on < p) ∧
    ∀ q, q < all.size → (pm.getD p 0).testBit q = true → ∃ e ∈ o.after, Region.binds .any e = true ∧ (q = e.on ∨ (pm.getD e.on 0).testBit q = true) := by
  have hp : p < all.size := (Array.getElem?_eq_some_iff.1 ho).1
  have := List.all_eq_true.1 h p (List.mem_range.2 hp)
  simp only [ho, Bool.and_eq_true] at this
  refine ⟨fun e he hb => ?_, fun q hq hbit => ?_⟩
  · have h1 := List.all_eq_true.1 this.1 e (by simpa using he)
    simpa [hb, Nat.blt_eq] using h1
  · have h1 := List.all_eq_true.1 this.2 q (List.mem_range.2 hq)
    rw [hbit] at h1
    simp only [Bool.not_true, Bool.false_or] at h1
    obtain ⟨e, he, h2⟩ := List.any_eq_true.1 h1
    simp only [Bool.and_eq_true, Bool.or_eq_true, beq_iff_eq] at h2
    exact ⟨e, by simpa using he, h2.1, h2.2⟩

/-- What is closed under the edges is closed under what comes ahead. -/
theorem closed_pm (h : pmOk all pm = true) (X : Nat → Prop) (hX : ∀ p o, all[p]? = some o → X p → ∀ e ∈ o.after, Region.binds .any e = true → X e.on) :
    ∀ (p : Nat) (o : Oper), all[p]? = some o → X p → ∀ q, q < all.size → (pm.getD p 0).testBit q = true → X q := by
  intro p
  induction p using Nat.strongRecOn with
  | _ p ih =>
    intro o ho hXp q hq hbit
    obtain ⟨h1, h2⟩ := pmOk_spec h ho
    obtain ⟨e, he, hb, hor⟩ := h2 q hq hbit
    have hXe := hX p o ho hXp e he hb
    rcases hor with rfl | hbit'
    · exact hXe
    · have hlt := h1 e he hb
      have hp : p < all.size := (Array.getElem?_eq_some_iff.1 ho).1
      have hoe : all[e.on]? = some all[e.on] := Array.getElem?_eq_getElem (by omega)
      exact ih e.on hlt _ hoe hXe q hq hbit'

/-- One that waits comes behind all that is ahead of it. -/
theorem ahead_pm (h : pmOk all pm = true) (X : Nat → Prop) (hX : ∀ p o, all[p]? = some o → X p → ∀ e ∈ o.after, Region.binds .any e = true → X e.on)
    {p : Nat} {o : Oper} (ho : all[p]? = some o) (hr : ∀ e ∈ o.after, Region.binds .any e = true → X e.on) {q : Nat} (hq : q < all.size) (hbit : (pm.getD p 0).testBit q = true) : X q := by
  obtain ⟨h1, h2⟩ := pmOk_spec h ho
  obtain ⟨e, he, hb, hor⟩ := h2 q hq hbit
  have hXe := hr e he hb
  rcases hor with rfl | hbit'
  · exact hXe
  · have hlt := h1 e he hb
    have hp : p < all.size := (Array.getElem?_eq_some_iff.1 ho).1
    have hoe : all[e.on]? = some all[e.on] := Array.getElem?_eq_getElem (by omega)
    exact closed_pm h X hX e.on _ hoe hXe q hq hbit'

theorem orderedB_spec (h : orderedB all pm = true) {i j d : Nat} {oi oj : Oper} (hi : all[i]? = some oi) (hj : all[j]? = some oj) (hd : oi.dst = some d)
    (hs : d ∈ slotsOf all oj ∨ oj.dst = some d) (hne : i ≠ j) : (pm.getD j 0).testBit i = true ∨ (pm.getD i 0).testBit j = true := by
  have hil : i < all.size := (Array.getElem?_eq_some_iff.1 hi).1
  have hjl : j < all.size := (Array.getElem?_eq_some_iff.1 hj).1
  have h1 := List.all_eq_true.1 h i (List.mem_range.2 hil)
  simp only [hi, hd] at h1
  have h2 := List.all_eq_true.1 h1 j (List.mem_range.2 hjl)
  simp only [hj, Bool.or_eq_true, beq_iff_eq, Bool.not_eq_true', Bool.or_eq_false_iff, beq_eq_false_iff_ne] at h2
  rcases h2 with ((h2 | h2) | h2) | h2
  · exact absurd h2 hne
  · rcases hs with hs | hs
    · have : (slotsOf all oj).contains d = true := by simpa using hs
      rw [this] at h2
      cases h2.1
    · exact absurd hs h2.2
  · exact .inl h2
  · exact .inr h2
end order
end Go.RX
