/- A reflective symbolic executor, part 7: the type table; loads and stores. -/
import Derived.Test.YtgaabcinjbjbgaaGreatDoorRxF
import Derived.Laws.IdiomCopy
namespace Go.RX

/-! ### the type table -/
def tkOk : Option TypeDesc → TK → Bool
  | some (.int k), .int k' => k == k'
  | some .bool, .bool => true
  | some .string, .str => true
  | some (.pointer e), .ptr e' => e == e'
  | some (.slice e), .slice e' => e == e'
  | some (.array n e), .arr n' e' => n == n' && e == e'
  | some (.struct fs), .struct l => fs.toList.map (fun f => (f.type, f.offset)) == l
  | some (.struct fs), .bld l _ => fs.toList.map (fun f => (f.type, f.offset)) == l
  | some (.map k e), .map k' e' => k == k' && e == e'
  | some (.func ..), .func => true
  | some (.interface _), .iface => true
  | _, _ => false

def isInt (k : IntKind) (m : Int) : Value → Bool
  | .int k' n => k == k' && n == m
  | _ => false

def zhead (x : SV) (vs : List Value) : Option (List Value) :=
  match x with
  | .seg k n (.lit m) => if n ≤ vs.length ∧ (vs.take n).all (isInt k m) = true then some (vs.drop n) else none
  | x => match vs with
    | v :: r => match ofValue v with
      | some y => match x, y with
        | .int k (.lit m), .int k' (.lit m') => if k = k' ∧ m = m' then some r else none
        | .bool (.lit b), .bool (.lit b') => if b = b' then some r else none
        | .nilp, .nilp => some r
        | .nils, .nils => some r
        | .nilf, .nilf => some r
        | .nili, .nili => some r
        | .nilm, .nilm => some r
        | .str l, .str l' => if l = l' then some r else none
        | _, _ => none
      | none => none
    | [] => none

def zsame : List Value → List SV → Bool
  | vs, [] => vs.isEmpty
  | vs, x :: r => match zhead x vs with
    | some vs' => zsame vs' r
    | none => false

theorem isInt_eq {k : IntKind} {m : Int} {v : Value} (h : isInt k m v = true) : v = .int k m := by
  cases v <;> simp_all [isInt]

theorem zhead_cells (ρ : Env) {x : SV} {vs vs' : List Value} (h : zhead x vs = some vs') : vs = SV.cells ρ x ++ vs' := by
  unfold zhead at h
  split at h
  · rename_i k n m
    split at h
    · rename_i hc
      simp only [Option.some.injEq] at h
      subst h
      have : segCells k n (E.den ρ (.lit m)) = vs.take n := by
        apply List.ext_getElem?
        intro j
        rw [segCells_getElem?]
        by_cases hj : j < n
        · rw [if_pos hj, List.getElem?_take_of_lt hj]
          have hlt : j < vs.length := by omega
          rw [List.getElem?_eq_getElem hlt]
          have := List.all_eq_true.1 hc.2 vs[j] (by
            rw [← List.getElem_take (xs := vs) (j := n) (h := by simp; omega)]
            exact List.getElem_mem _)
          rw [isInt_eq this]
          rfl
        · rw [if_neg hj, List.getElem?_eq_none (by simp; omega)]
      simp only [SV.cells, this, List.take_append_drop]
    · cases h
  · split at h
    · rename_i v r
      split at h
      · rename_i y hy
        have hv := ofValue_val ρ v y hy
        subst hv
        split at h
        all_goals first
          | (simp only [Option.some.injEq] at h; subst h; rfl)
          | (split at h
             · rename_i hc
               simp only [Option.some.injEq] at h
               subst h
               first | (obtain ⟨rfl, rfl⟩ := hc; rfl) | (subst hc; rfl)
             · cases h)
          | cases h
      · cases h
    · cases h

theorem zsame_cells (ρ : Env) : ∀ (l : List SV) (vs : List Value), zsame vs l = true → SV.cellsL ρ l = vs
  | [], vs, h => by
    cases vs with
    | nil => rfl
    | cons v r => simp [zsame] at h
  | x :: r, vs, h => by
    unfold zsame at h
    split at h
    · rename_i vs' hz
      rw [zhead_cells ρ hz, SV.cellsL, zsame_cells ρ r vs' h]
    · cases h

/-- The kinds of a type's cells, where it is made of integers and bools. -/
def layFields (P : Program) (f : TypeId → Option (List CellK)) : List Field → Nat → Option (List CellK)
  | [], _ => some []
  | fd :: r, off =>
    if fd.name == "_" || fd.offset != off then none else
    match f fd.type with
    | some l => if P.cellsOf fd.type == l.length then (layFields P f r (off + l.length)).map (l ++ ·) else none
    | none => none
def layOf (P : Program) : Nat → TypeId → Option (List CellK)
  | 0, _ => none
  | d + 1, t =>
    match P.underlying t with
    | some (.int k) => some [some k]
    | some .bool => some [none]
    | some (.array n e) => match layOf P d e with
      | some l => if P.cellsOf e == l.length then some (List.replicate n l).flatten else none
      | none => none
    | some (.struct fs) => if P.stoodInHeld t then none else layFields P (layOf P d) fs.toList 0
    | _ => none

/-- The table says what the program's types are. -/
def layOk (P : Program) (ti : TI) : Bool :=
  ti.lay.isEmpty || (layOf P 12 ti.t == some (layCells ti.lay) && !P.eqGuardType P.depth ti.t)
def tiOk (P : Program) (ti : TI) : Bool :=
  tkOk (P.underlying ti.t) ti.k && layOk P ti && SV.widthL ti.zero == ti.size &&
  match P.info? ti.t with
  | some i => i.size == ti.size && i.bytes == ti.bytes && ti.zero.all SV.one &&
    match i.zero with
    | some z => zsame z.cells.toList ti.zero && (match z with | .agg _ => ti.k.agg | _ => !ti.k.agg)
    | none => false
  | none => false
def checkT (P : Program) (T : List TI) : Bool := T.all (tiOk P)

structure TInfo (P : Program) (ti : TI) : Prop where
  kind : tkOk (P.underlying ti.t) ti.k = true
  lay : ti.lay.isEmpty = true ∨ (layOf P 12 ti.t = some (layCells ti.lay) ∧ P.eqGuardType P.depth ti.t = false)
  one : ti.zero.all SV.one = true
  zlen : SV.widthL ti.zero = ti.size
  zag : ∀ i z, P.info? ti.t = some i → i.zero = some z → (match z with | .agg _ => ti.k.agg | _ => !ti.k.agg) = true
  info : ∃ i, P.info? ti.t = some i ∧ i.size = ti.size ∧ i.bytes = ti.bytes ∧ ∃ z, i.zero = some z ∧ ∀ ρ, SV.cellsL ρ ti.zero = z.cells.toList

theorem tiOk_info {P : Program} {ti : TI} (h : tiOk P ti = true) : TInfo P ti := by
  unfold tiOk at h
  rw [Bool.and_eq_true, Bool.and_eq_true, Bool.and_eq_true, beq_iff_eq] at h
  obtain ⟨⟨⟨hk, hl⟩, hzl⟩, h⟩ := h
  have hl' : ti.lay.isEmpty = true ∨ (layOf P 12 ti.t = some (layCells ti.lay) ∧ P.eqGuardType P.depth ti.t = false) := by
    unfold layOk at hl
    rw [Bool.or_eq_true, Bool.and_eq_true, beq_iff_eq, Bool.not_eq_true'] at hl
    exact hl
  split at h
  · rename_i i hi
    simp only [Bool.and_eq_true, beq_iff_eq] at h
    obtain ⟨⟨⟨h1, h2⟩, h4⟩, h3⟩ := h
    split at h3
    · rename_i z hz
      rw [Bool.and_eq_true] at h3
      exact ⟨hk, hl', h4, hzl, fun i' z' hi' hz' => by rw [hi] at hi'; cases hi'; rw [hz] at hz'; cases hz'; exact h3.2, i, hi, h1, h2, z, hz, fun ρ => zsame_cells ρ _ _ h3.1⟩
    · cases h3
  · cases h

theorem tlook_spec {P : Program} {T : List TI} (hT : checkT P T = true) {t : Nat} {ti : TI} (h : tlook T t = some ti) : ti.t = t ∧ TInfo P ti := by
  unfold tlook at h
  have hm := List.mem_of_find?_eq_some h
  have ht := List.find?_some h
  simp only [beq_iff_eq] at ht
  exact ⟨ht, tiOk_info (List.all_eq_true.1 hT ti hm)⟩

section
variable {P : Program} (w : World)

theorem TInfo.sizeOf {ti : TI} (h : TInfo P ti) : (sizeOf ti.t).run P w = .ok ti.size w := by
  obtain ⟨i, hi, hs, _⟩ := h.info
  simp [Go.sizeOf, typeInfo, hi, hs]
theorem TInfo.isAgg {ti : TI} (h : TInfo P ti) : (isAgg ti.t).run P w = .ok ti.k.agg w := by
  have hk := h.kind
  unfold tkOk at hk
  split at hk <;> first | (cases hk; done) | skip
  all_goals (rename_i h1 h2; simp [Go.isAgg, run_underlying h1, h2, TK.agg])
theorem TInfo.zero {ti : TI} (h : TInfo P ti) : ∃ z, (zeroValue ti.t).run P w = .ok z w ∧ ∀ ρ, SV.cellsL ρ ti.zero = z.cells.toList := by
  obtain ⟨i, hi, _, _, z, hz, hc⟩ := h.info
  exact ⟨z, by simp [zeroValue, typeInfo, hi, hz], hc⟩
end

end Go.RX
