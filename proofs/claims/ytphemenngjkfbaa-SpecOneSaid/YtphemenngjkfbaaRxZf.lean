/- A reflective symbolic executor: arguments that are slices of structs of integers and bools, structs within structs too. -/
import Derived.Test.YtphemenngjkfbaaRxZe
import Derived.ChangeArms
import Derived.ChangeSame
import Derived.DataReads
namespace Go.RX

def flatF (P : Program) (g : TypeId → Option (List (Option IntKind))) : List Field → Nat → Option (List (Option IntKind))
  | [], _ => some []
  | f :: r, off => match g f.type, flatF P g r (off + P.cellsOf f.type) with
    | some ks, some l => if f.offset = off ∧ P.cellsOf f.type = ks.length then some (ks ++ l) else none
    | _, _ => none
/-- The cells of a type of integers and bools, structs within structs too; none: a bool. -/
def flat (P : Program) : Nat → TypeId → Option (List (Option IntKind))
  | 0, _ => none
  | n + 1, t => match P.underlying t with
    | some (.int k) => some [some k]
    | some .bool => some [none]
    | some (.struct fs) => flatF P (flat P n) fs.toList 0
    | _ => none

def cellV : Option IntKind → Int → Value
  | some k, n => .int k n
  | none, n => .bool (!(n == 0))
def cellWf : Option IntKind → Int → Prop
  | some k, n => (Lit.int k n).wf = true
  | none, _ => True
def CellOk (k : Option IntKind) (v : Value) : Prop := ∃ n, v = cellV k n ∧ cellWf k n

section
variable {H : Type} {enc : TypeId × Value → H} {P : Program} {w : World} {base : Nat} {spare : Nat → Bool} {held : Bool}

theorem flatF_trod {g : TypeId → Option (List (Option IntKind))} {cs : List Value} (hg : ∀ t ks cs', g t = some ks → (∃ n x, DataW.trod enc P w base spare held n t cs' = some x) → ∀ (j : Nat) k, ks[j]? = some k → ∃ v, cs'[j]? = some v ∧ CellOk k v) :
    ∀ {fs : List Field} {off : Nat} {ks : List (Option IntKind)}, flatF P g fs off = some ks → (∀ f ∈ fs, ∃ n x, DataW.trod enc P w base spare held n f.type ((cs.drop f.offset).take (P.cellsOf f.type)) = some x) →
      ∀ (j : Nat) k, ks[j]? = some k → ∃ v, cs[off + j]? = some v ∧ CellOk k v
  | [], off, ks, h, _, j, k, hk => by
    simp only [flatF, Option.some.injEq] at h
    subst h
    simp at hk
  | f :: r, off, ks, h, hf, j, k, hk => by
    unfold flatF at h
    split at h
    · rename_i k1 l h1 h2
      split at h
      · rename_i hc
        obtain ⟨rfl, hc2⟩ := hc
        cases h
        by_cases hj : j < k1.length
        · rw [List.getElem?_append_left hj] at hk
          obtain ⟨v, hv, hok⟩ := hg _ _ _ h1 (hf f List.mem_cons_self) j k hk
          refine ⟨v, ?_, hok⟩
          rw [List.getElem?_take] at hv
          split at hv
          · rw [List.getElem?_drop] at hv; exact hv
          · cases hv
        · rw [List.getElem?_append_right (by omega)] at hk
          obtain ⟨v, hv, hok⟩ := flatF_trod hg h2 (fun f' hf' => hf f' (List.mem_cons_of_mem _ hf')) _ k hk
          refine ⟨v, ?_, hok⟩
          rw [← hv, hc2]
          congr 1
          omega
      · cases h
    · cases h

theorem flat_trod : ∀ {n : Nat} {t : TypeId} {ks : List (Option IntKind)} {cs : List Value}, flat P n t = some ks → (∃ m x, DataW.trod enc P w base spare held m t cs = some x) → ∀ (j : Nat) k, ks[j]? = some k → ∃ v, cs[j]? = some v ∧ CellOk k v
  | 0, _, _, _, h, _, _, _, _ => by cases h
  | n + 1, t, ks, cs, h, ⟨m, x, hx⟩, j, k, hk => by
    unfold flat at h
    split at h
    · rename_i kk ht
      cases h
      obtain ⟨z, rfl, _, hw⟩ := DataW.trod_int ht hx
      match j, hk with
      | 0, hk =>
        simp at hk
        subst hk
        exact ⟨_, rfl, z, rfl, hw⟩
      | j + 1, hk => simp at hk
    · rename_i ht
      cases h
      cases m with
      | zero => simp [DataW.trod] at hx
      | succ m =>
        have hb : ∃ b, cs = [.bool b] := by
          unfold DataW.trod at hx
          rw [ht] at hx
          split at hx <;> simp_all
        obtain ⟨b, rfl⟩ := hb
        match j, hk with
        | 0, hk =>
          simp at hk
          subst hk
          exact ⟨_, rfl, if b then 1 else 0, by cases b <;> rfl, trivial⟩
        | j + 1, hk => simp at hk
    · rename_i fs ht
      obtain ⟨ys, n', _, _, _, hyl, hf⟩ := DataW.trod_struct ht hx
      have := flatF_trod (cs := cs) (fun t ks cs' h1 h2 => flat_trod (n := n) h1 h2) h (fun f hf' => by
        obtain ⟨i, hi⟩ := List.getElem?_of_mem hf'
        have hi' : fs[i]? = some f := by rw [← hi, Array.getElem?_toList]
        have h1 := hf i f hi'
        have hil : i < fs.size := (Array.getElem?_eq_some_iff.1 hi').1
        exact ⟨n', ys[i]'(by omega), h1.trans (List.getElem?_eq_getElem _)⟩) j k hk
      simpa using this
    · cases h
end

/-- A slice of structs that came in: cell j of its element i. -/
def IsTab (ks : List (Option IntKind)) (w : World) (a : Option Addr) (len cap : Nat) (F : Nat → Nat → Int) : Prop :=
  (a = none ∧ len = 0 ∧ cap = 0) ∨
  ∃ x, a = some x ∧ len ≤ cap ∧ cap ≤ maxLen ∧ ∀ i, i < len → ∀ (j : Nat) k, ks[j]? = some k → w.cell? (x.add (i * ks.length + j)) = some (cellV k (F i j)) ∧ cellWf k (F i j)

theorem open_tab {H : Type} {enc : TypeId × Value → H} {P : Program} {w : World} {base : Nat} {spare : Nat → Bool} {held : Bool} {t e : TypeId} {n : Nat} {ks : List (Option IntKind)} {fuel : Nat} {cs : List Value} {x : DataW H × List MemPlace}
    (ht : P.underlying t = some (.slice e)) (he : flat P n e = some ks) (hc : P.cellsOf e = ks.length) (h : DataW.trod enc P w base spare held fuel t cs = some x) :
    ∃ a len cap F, cs = [.slice a len cap] ∧ IsTab ks w a len cap F := by
  rcases DataW.trod_slice ht h with ⟨rfl, _⟩ | ⟨a, len, cap, elems, rest, m, _, rfl, _, hb, hl, hm, hlen, hel, _, _⟩
  · exact ⟨none, 0, 0, fun _ _ => 0, rfl, .inl ⟨rfl, rfl, rfl⟩⟩
  have key : ∀ i j, ∃ z : Int, i < len → ∀ k, ks[j]? = some k → w.cell? (a.add (i * ks.length + j)) = some (cellV k z) ∧ cellWf k z := by
    intro i j
    by_cases hi : i < len
    · cases hk : ks[j]? with
      | none => exact ⟨0, fun _ k hk' => by cases hk'⟩
      | some k =>
        have h1 := hel i hi
        have hg : elems[i]? = some (elems[i]'(by omega)) := List.getElem?_eq_getElem (by omega)
        rw [hg, Option.bind_eq_some_iff] at h1
        obtain ⟨cs', hcs, htr⟩ := h1
        obtain ⟨v, hv, z, rfl, hz⟩ := flat_trod he ⟨_, _, htr⟩ j k hk
        obtain ⟨_, hcl, hat⟩ := World.cells?_some hcs
        have hjl : j < ks.length := (List.getElem?_eq_some_iff.1 hk).1
        refine ⟨z, fun _ k' hk' => ?_⟩
        cases hk'
        refine ⟨?_, hz⟩
        have := hat j (by rw [hc]; exact hjl)
        rw [hv, hc, addr_add_add] at this
        exact this
    · exact ⟨0, fun h => absurd h hi⟩
  refine ⟨some a, len, cap, fun i j => (key i j).choose, rfl, .inr ⟨a, rfl, hl, hm, fun i hi j k hk => (key i j).choose_spec hi k hk⟩⟩

def colOf (k : Option IntKind) (f : Nat → Int) : Nat → List Value :=
  match k with
  | some k => colI k 1 f
  | none => colB 1 f
theorem colOf_eq (k : Option IntKind) (f : Nat → Int) (i : Nat) : colOf k f i = [cellV k (f i)] := by
  cases k <;> simp [colOf, colI, colB, segCells, cellV]
def colsOfTab : List (Option IntKind) → (Nat → Nat → Int) → List (Nat → List Value)
  | [], _ => []
  | k :: r, F => colOf k (fun i => F i 0) :: colsOfTab r fun i j => F i (j + 1)
theorem colsOfTab_at : ∀ {ks : List (Option IntKind)} {F : Nat → Nat → Int} {i : Nat}, ((colsOfTab ks F).flatMap fun c => c i).length = ks.length ∧ ∀ (j : Nat) u, ((colsOfTab ks F).flatMap fun c => c i)[j]? = some u → ∃ k, ks[j]? = some k ∧ u = cellV k (F i j)
  | [], F, i => ⟨rfl, fun j u h => by simp [colsOfTab] at h⟩
  | k :: r, F, i => by
    obtain ⟨h1, h2⟩ := colsOfTab_at (ks := r) (F := fun i j => F i (j + 1)) (i := i)
    simp only [colsOfTab, List.flatMap_cons, colOf_eq, List.singleton_append]
    refine ⟨by simp only [List.length_cons, h1], fun j u h => ?_⟩
    cases j with
    | zero => simp at h; exact ⟨k, rfl, h.symm⟩
    | succ j => exact h2 j u (by simpa using h)
theorem tab_at {ks : List (Option IntKind)} {F : Nat → Nat → Int} : ∀ {n : Nat}, (tabL n (colsOfTab ks F)).length = n * ks.length ∧ ∀ (m : Nat) u, (tabL n (colsOfTab ks F))[m]? = some u → ∃ i j k, i < n ∧ ks[j]? = some k ∧ m = i * ks.length + j ∧ u = cellV k (F i j)
  | 0 => ⟨by simp [tabL], fun m u h => by simp [tabL] at h⟩
  | n + 1 => by
    obtain ⟨h1, h2⟩ := tab_at (ks := ks) (F := F) (n := n)
    have e : tabL (n + 1) (colsOfTab ks F) = tabL n (colsOfTab ks F) ++ (colsOfTab ks F).flatMap fun c => c n := by
      simp [tabL, List.range_succ, List.flatMap_append]
    obtain ⟨h3, h4⟩ := colsOfTab_at (ks := ks) (F := F) (i := n)
    rw [e]
    refine ⟨by rw [List.length_append, h1, h3, Nat.succ_mul], fun m u h => ?_⟩
    by_cases hm : m < (tabL n (colsOfTab ks F)).length
    · rw [List.getElem?_append_left hm] at h
      obtain ⟨i, j, k, q1, q2, q3, q4⟩ := h2 m u h
      exact ⟨i, j, k, by omega, q2, q3, q4⟩
    · rw [List.getElem?_append_right (by omega)] at h
      obtain ⟨k, q1, q2⟩ := h4 _ u h
      refine ⟨n, _, k, by omega, q1, ?_, q2⟩
      rw [h1] at hm ⊢
      omega

theorem owns_tab {ks : List (Option IntKind)} {w : World} {a : Option Addr} {len cap : Nat} {F : Nat → Nat → Int} (h : IsTab ks w a len cap F) (hk : 0 < ks.length) (t : Nat) :
    Owns ([sliHP false t ks.length (.slice a len cap) len (tabL len (colsOfTab ks F))] ++ [keptHP w.heap.size w]) w := by
  have hk0 : ∃ k, ks[0]? = some k := ⟨_, List.getElem?_eq_getElem hk⟩
  obtain ⟨k0, hk0⟩ := hk0
  have h1 : (sliHP false t ks.length (.slice a len cap) len (tabL len (colsOfTab ks F))).p w (fun b => (Value.slice a len cap).ownBlock = some b ∧ 0 < len) := by
    refine ⟨?_, fun b => by simp⟩
    simp only [Bool.false_eq_true, if_false]
    refine ⟨tab_at.1, a, len, cap, rfl, rfl, ?_, ?_, ?_⟩
    · rcases h with ⟨_, rfl, rfl⟩ | ⟨x, _, h, _⟩
      · exact Nat.le_refl _
      · exact h
    · rintro rfl
      rcases h with ⟨_, h, _⟩ | ⟨x, h, _⟩
      · exact h
      · cases h
    · rintro ad rfl
      rcases h with ⟨h, _⟩ | ⟨x, h, hl, _, hc⟩
      · cases h
      · cases h
        constructor
        · intro hpos
          have h0 := (hc 0 hpos 0 k0 hk0).1
          rw [Nat.zero_mul, Nat.zero_add, addr_add_zero] at h0
          exact World.cell?_spot h0
        · intro j u hu
          obtain ⟨i, j', k, q1, q2, rfl, rfl⟩ := tab_at.2 j u hu
          exact (hc i q1 j' k q2).1
  have h2 : ∀ b, (Value.slice a len cap).ownBlock = some b ∧ 0 < len → b < w.heap.size := by
    rintro b ⟨hb, hpos⟩
    rcases h with ⟨rfl, rfl, _⟩ | ⟨x, rfl, hl, _, hc⟩
    · omega
    · simp only [Value.ownBlock, Option.some.injEq] at hb
      subst hb
      have := World.block_lt_of_cell? w _ (hc 0 hpos 0 k0 hk0).1
      rw [Nat.zero_mul, Nat.zero_add, addr_add_zero] at this
      exact this
  refine ⟨fun i b => if i = 0 then (Value.slice a len cap).ownBlock = some b ∧ 0 < len else b < w.heap.size, ⟨?_, ?_⟩⟩
  · intro i hp hi
    match i, hi with
    | 0, hi => simp at hi; subst hi; exact ⟨h1, h2⟩
    | 1, hi => simp at hi; subst hi; exact ⟨⟨fun _ => Iff.rfl, fun _ _ => rfl⟩, fun _ h => h⟩
    | i + 2, hi => simp at hi
  · intro i j x y hne hi hj hwr
    exfalso
    have key : ∀ (i : Nat) (x : HP), ([sliHP false t ks.length (.slice a len cap) len (tabL len (colsOfTab ks F))] ++ [keptHP w.heap.size w])[i]? = some x → x.wr = false := by
      intro i x hi
      match i, hi with
      | 0, hi => simp at hi; subst hi; rfl
      | 1, hi => simp at hi; subst hi; rfl
      | i + 2, hi => simp at hi
    rw [key i x hi, key j y hj] at hwr
    simp at hwr
end Go.RX
