/- A reflective symbolic executor, part 13: what one operation does. -/
import Derived.Test.YtgaabcinjbjbgaaGreatDoorRxL
import Derived.Maps.AppendAt
import Derived.Great.BuildSlice
namespace Go.RX

/-- Operands' values are what the symbolic ones denote. -/
structure OpsOk (ρ : Env) (look : Nat → Option SV) (vals : Operand → Value) : Prop where
  tmp : ∀ s v, look s = some v → vals (.tmp s) = v.val ρ
  const : ∀ v, vals (.const v) = v
  func : ∀ f, vals (.func f) = .func (.func f) #[] #[]

section
variable {P : Program} {ρ : Env} {w : World} {look : Nat → Option SV} {vals : Operand → Value}

theorem opEval_spec (h : OpsOk ρ look vals) {x : Operand} {v : SV} (he : opEval look x = some v) : vals x = v.val ρ := by
  cases x with
  | tmp t => exact h.tmp t v he
  | const c => rw [h.const]; exact (ofValue_val ρ c v he).symm
  | global g => cases he
  | func f =>
    simp only [opEval, Option.some.injEq] at he
    subst he
    rw [h.func]; rfl

theorem optAll_spec (h : OpsOk ρ look vals) : ∀ (xs : List Operand) (vs : List SV), optAll (xs.map (opEval look)) = some vs → xs.map vals = SV.vals ρ vs
  | [], vs, he => by simp [optAll] at he; subst he; rfl
  | x :: r, vs, he => by
    simp only [List.map_cons] at he
    cases hx : opEval look x with
    | none => rw [hx] at he; simp [optAll] at he
    | some v =>
      rw [hx] at he
      simp only [optAll, Option.map_eq_some_iff] at he
      obtain ⟨rs, hrs, rfl⟩ := he
      simp only [List.map_cons, SV.vals, opEval_spec h hx, optAll_spec h r rs hrs]

/-- Parts put together, symbolic and real. -/
inductive PartsMatch (ρ : Env) : List (Nat × List SV) → List (Nat × Value) → Prop
  | nil : PartsMatch ρ [] []
  | cons {i cs v r s} : v.cells.toList = SV.cellsL ρ cs → PartsMatch ρ r s → PartsMatch ρ ((i, cs) :: r) ((i, v) :: s)

theorem partsOf_spec (h : OpsOk ρ look vals) (hok : ρ.Ok) : ∀ (xs : List (Nat × Operand)) (ps : List (Nat × List SV)), partsOf look xs = some ps →
    PartsMatch ρ ps (xs.map fun x => (x.1, vals x.2))
  | [], ps, he => by simp [partsOf] at he; subst he; exact .nil
  | (i, x) :: r, ps, he => by
    unfold partsOf at he
    split at he
    · rename_i v rest hv hr
      rw [Option.map_eq_some_iff] at he
      obtain ⟨cs, hcs, rfl⟩ := he
      refine .cons ?_ (partsOf_spec h hok r rest hr)
      rw [opEval_spec h hv]
      exact (toCells_cells ρ hcs hok).1
    · cases he

theorem fill_spec (place : Nat → Option (Nat × Nat)) : ∀ {ps : List (Nat × List SV)} {vs : List (Nat × Value)}, PartsMatch ρ ps vs →
    ∀ {cells cs' : List SV} {arr : Array Value}, fillSym place cells ps = some cs' → arr.toList = SV.cellsL ρ cells →
    ∃ r, Instr.fill place arr vs = some r ∧ r.toList = SV.cellsL ρ cs'
  | _, _, .nil, cells, cs', arr, h, ha => by
    simp only [fillSym, Option.some.injEq] at h
    subst h
    exact ⟨arr, by rw [Instr.fill], ha⟩
  | _, _, .cons (i := i) (cs := cs) (v := v) (r := r) (s := s) hv hr, cells, cs', arr, h, ha => by
    unfold fillSym at h
    split at h
    · rename_i off size hpl
      split at h
      · rename_i hlen
        split at h
        · rename_i cells2 hput
          obtain ⟨hc, hle⟩ := rowPut_cells ρ hput
          have hsz : v.cells.size = size := by
            rw [← Array.length_toList, hv, cellsL_length]; exact hlen
          have hasz : arr.size = (SV.cellsL ρ cells).length := by rw [← Array.length_toList, ha]
          have hcl : (SV.cellsL ρ cs).length = size := by rw [← hv]; simpa using hsz
          obtain ⟨g1, g2⟩ := Great.foldl_set off v.cells.toList 0 arr
          unfold Instr.fill
          simp only [hpl, hsz]
          rw [if_neg (by simp; omega)]
          refine fill_spec place hr h ?_
          rw [hc]
          apply List.ext_getElem?
          intro k
          rw [Array.getElem?_toList]
          have e1 : ∀ (cs0 : Array Value), ((v.cells.zipIdx).foldl (fun cs (x : Value × Nat) => cs.setIfInBounds (off + x.2) x.1) cs0) = ((v.cells.toList.zipIdx 0).foldl (fun cs (x : Value × Nat) => cs.setIfInBounds (off + x.2) x.1) cs0) := by
            intro cs0
            rw [← Array.foldl_toList, Array.toList_zipIdx]
          have e2 := g2 k
          rw [← e1 arr] at e2
          refine Eq.trans e2 ?_
          simp only [Nat.add_zero, Array.length_toList, hsz]
          rw [List.append_assoc, List.getElem?_append, List.getElem?_append, List.length_take, Nat.min_eq_left (by omega), hcl, List.getElem?_take, List.getElem?_drop, ← ha, ← hv]
          by_cases h1 : k < off
          · rw [if_neg (by omega), if_pos h1, if_pos h1]
            simp
          · rw [if_neg h1]
            by_cases h2 : k < off + size
            · rw [if_pos ⟨by omega, h2, by omega⟩, if_pos (by omega)]
            · rw [if_neg (by omega), if_neg (by omega)]
              have : off + size + (k - off - size) = k := by omega
              rw [this]
              simp
        · cases h
      · cases h
    · cases h
end
end Go.RX
