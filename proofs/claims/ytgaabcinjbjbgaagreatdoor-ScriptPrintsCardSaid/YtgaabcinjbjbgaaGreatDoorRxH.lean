/- A reflective symbolic executor, part 8: tables of rows; reading and writing memory. -/
import Derived.Test.YtgaabcinjbjbgaaGreatDoorRxG
namespace Go.RX

theorem flatMap_cut {α : Type} (s : Nat) (f : Nat → List α) (hf : ∀ i, (f i).length = s) : ∀ (n i : Nat), i < n →
    (((List.range n).flatMap f).drop (i * s)).take s = f i := by
  intro n i hi
  have h1 : List.range n = List.range i ++ (i :: (List.range (n - i - 1)).map (· + (i + 1))) := by
    apply List.ext_getElem?
    intro j
    rw [List.getElem?_append]
    by_cases hj : j < n
    · rw [List.getElem?_range hj]
      by_cases hji : j < i
      · rw [if_pos (by simpa using hji), List.getElem?_range hji]
      · rw [if_neg (by simpa using hji), List.length_range]
        by_cases he : j = i
        · subst he; simp
        · obtain ⟨d, rfl⟩ : ∃ d, j = i + 1 + d := ⟨j - i - 1, by omega⟩
          rw [show i + 1 + d - i = d + 1 by omega, List.getElem?_cons_succ, List.getElem?_map, List.getElem?_range (by omega)]
          simp; omega
    · rw [List.getElem?_eq_none (by simp; omega), if_neg (by simp; omega), List.getElem?_eq_none (by simp; omega)]
  have hlen : ∀ l : List Nat, (l.flatMap f).length = l.length * s := by
    intro l
    induction l with
    | nil => simp
    | cons a r ih => rw [List.flatMap_cons, List.length_append, hf, ih, List.length_cons, Nat.add_mul]; omega
  rw [h1, List.flatMap_append, List.flatMap_cons]
  have h2 := hlen (List.range i)
  rw [List.length_range] at h2
  rw [List.drop_append, h2, Nat.sub_self, List.drop_of_length_le (by omega), List.drop_zero, List.nil_append]
  rw [List.take_append_of_le_length (by rw [hf]; exact Nat.le_refl _), List.take_of_length_le (by rw [hf]; exact Nat.le_refl _)]

section
variable (ρ : Env)

theorem col_length (c : Col) (i : Nat) : (c.cells ρ i).length = c.w := by
  obtain ⟨ck, cw, a⟩ := c
  cases ck <;> simp [Col.cells, colI, colB, colV, colP, segCells_length]
theorem row_length (cols : List Col) (i : Nat) : ((cols.map (Col.cells ρ)).flatMap fun c => c i).length = colsW cols := by
  induction cols with
  | nil => rfl
  | cons c r ih => simp only [List.map_cons, List.flatMap_cons, List.length_append, col_length, ih, colsW, List.sum_cons, List.map_cons]
theorem tab_cut (cols : List Col) (n i : Nat) (h : i < n) :
    ((tabCells ρ n cols).drop (i * colsW cols)).take (colsW cols) = (cols.map (Col.cells ρ)).flatMap fun c => c i :=
  flatMap_cut (colsW cols) (fun (i : Nat) => (cols.map (Col.cells ρ)).flatMap fun (c : Nat → List Value) => c i) (row_length ρ cols) n i h
theorem tab_length (cols : List Col) (n : Nat) : (tabCells ρ n cols).length = n * colsW cols := by
  unfold tabCells tabL
  have : ∀ l : List Nat, (l.flatMap fun i => (cols.map (Col.cells ρ)).flatMap fun c => c i).length = l.length * colsW cols := by
    intro l
    induction l with
    | nil => simp
    | cons a r ih => rw [List.flatMap_cons, List.length_append, row_length, ih, List.length_cons, Nat.add_mul]; omega
  rw [this, List.length_range]

theorem toNat_mul (x : Int) (w : Nat) : (x * (w : Int)).toNat = x.toNat * w := by
  rcases Int.le_total 0 x with h | h
  · obtain ⟨m, rfl⟩ := Int.eq_ofNat_of_zero_le h
    rw [← Int.natCast_mul, Int.toNat_natCast, Int.toNat_natCast]
  · have h1 : x * (w : Int) ≤ 0 := Int.mul_nonpos_of_nonpos_of_nonneg h (by omega)
    rw [Int.toNat_of_nonpos h1, Int.toNat_of_nonpos h]; simp

theorem mkP_cells (e : E) : SV.cells ρ (mkP e) = [ptrV (e.den ρ 0)] := by
  unfold mkP
  split
  · simp only [SV.cells, E.den, ptrV_blk]
  · split
    · rename_i h; subst h; rfl
    · rfl
  · rfl
theorem colElem_cells {c : Col} {i : E} {x : SV} (h : colElem c i = some x) : SV.cells ρ x = c.cells ρ (i.den ρ 0).toNat := by
  obtain ⟨ck, cw, a⟩ := c
  unfold colElem at h
  cases ck with
  | int k =>
    simp only [Col.cells] at h ⊢
    split at h
    · rename_i hw
      simp only [Option.some.injEq] at h
      subst h
      simp [SV.cells, colI, segCells, hw, eSel_den]
    · simp only [Option.some.injEq] at h
      subst h
      simp only [SV.cells, colI]
      apply segCells_congr
      intro j _
      rw [eShift_den, eMul_den]
      simp only [E.den]
      rw [toNat_mul]
  | bool =>
    simp only [Col.cells] at h ⊢
    split at h
    · rename_i hw
      simp only [Option.some.injEq] at h
      subst h
      simp [SV.cells, colB, hw, eSel_den, bNz_den]
    · cases h
  | val v =>
    simp only [Col.cells] at h ⊢
    split at h
    · rename_i hw
      simp only [Option.some.injEq] at h
      subst h
      simp [SV.cells, colV, hw]
    · cases h
  | ptr =>
    simp only [Col.cells] at h ⊢
    split at h
    · rename_i hw
      simp only [Option.some.injEq] at h
      subst h
      rw [mkP_cells]
      simp [colP, hw, eSel_den]
    · cases h
  | nils =>
    simp only [Col.cells] at h ⊢
    split at h
    · rename_i hw
      simp only [Option.some.injEq] at h
      subst h
      simp [SV.cells, colV, hw]
    · cases h
  | str =>
    simp only [Col.cells] at h ⊢
    split at h
    · rename_i hw
      simp only [Option.some.injEq] at h
      subst h
      rw [mkStr_cells, eAt2_den]
      simp [colV, hw]
    · cases h

theorem colElems_cells {i : E} : ∀ {cols : List Col} {es : List SV}, colElems i cols = some es →
    SV.cellsL ρ es = (cols.map (Col.cells ρ)).flatMap fun c => c (i.den ρ 0).toNat
  | [], es, h => by simp [colElems] at h; subst h; rfl
  | c :: r, es, h => by
    unfold colElems at h
    split at h
    · rename_i x xs hx hxs
      simp only [Option.some.injEq] at h
      subst h
      simp only [SV.cellsL, List.map_cons, List.flatMap_cons, colElem_cells ρ hx, colElems_cells hxs]
    · cases h

theorem inRange_prop {i n : E} (h : ∀ b ∈ inRange i n, b.prop ρ) : 0 ≤ i.den ρ 0 ∧ i.den ρ 0 < n.den ρ 0 := by
  have key : ∀ b : BE, b ∈ [bLe (.lit 0) i, bLt i n] → b.den ρ = true := by
    intro b hb
    by_cases hl : b = .lit true
    · subst hl; rfl
    · exact (BE.den_iff ρ b).2 (h b (by unfold inRange; exact List.mem_filter.2 ⟨hb, by simpa using hl⟩))
  have h1 := key (bLe (.lit 0) i) (by simp)
  have h2 := key (bLt i n) (by simp)
  rw [bLe_den] at h1
  rw [bLt_den] at h2
  exact ⟨of_decide_eq_true h1, of_decide_eq_true h2⟩
end

theorem addr_add_add (a : Addr) (m n : Nat) : (a.add m).add n = a.add (m + n) := by
  unfold Addr.add
  by_cases hm : m = 0
  · subst hm; simp
  · by_cases hn : n = 0
    · subst hn; simp
    · simp [hm, hn, Nat.add_assoc]
theorem addr_add_lit (b o n : Nat) : (⟨b, o, none⟩ : Addr).add n = ⟨b, o + n, none⟩ := by
  unfold Addr.add; split <;> simp_all

section
variable {P : Program} {w : World}

/-- A load of a type, the cells known. -/
theorem run_loadAt {ti : TI} (h : TInfo P ti) (a : Addr) (xs : List Value) (hl : xs.length = ti.size)
    (hc : ∀ (j : Nat) v, xs[j]? = some v → w.cell? (a.add j) = some v) (v : Value)
    (hv : (ti.k.agg = true → v = .agg xs.toArray) ∧ (ti.k.agg = false → xs = [v])) :
    (Instr.loadAt ti.t (.pointer (some a))).run P w = .ok v w := by
  cases ha : ti.k.agg with
  | true =>
    have h1 := run_loadCells_list (P := P) w a xs hc
    rw [hl] at h1
    simp [Instr.loadAt, Instr.sureAddr, loadVar, h.isAgg w, ha, h.sizeOf w, h1, hv.1 ha]
  | false =>
    have hx := hv.2 ha
    subst hx
    have := hc 0 v rfl
    simp only [Addr.add, if_true] at this
    simp [Instr.loadAt, Instr.sureAddr, loadVar, h.isAgg w, ha, this]

/-- What reading a row gives. -/
theorem rowHP_read {b : Nat} {wr : Bool} {cs : List Value} {S : Nat → Prop} (h : (rowHP b wr cs).p w S) (c : Nat) (j : Nat) (v : Value)
    (hv : (cs.drop c)[j]? = some v) : w.cell? ((⟨b, c, none⟩ : Addr).add j) = some v := by
  rw [addr_add_lit]
  rw [List.getElem?_drop] at hv
  obtain ⟨_, ty, fz, hg, _⟩ := h
  rw [cell_of_row w b (c + j) _ ty fz hg]
  simpa using hv

theorem sli_read {md : Bool} {t s n : Nat} {v : Value} {cs : List Value} {S : Nat → Prop} (h : (sliHP md t s v n cs).p w S) (c j : Nat) (u : Value)
    (hu : (cs.drop c)[j]? = some u) : ∃ a m cp, v = .slice (some a) m cp ∧ m = n ∧ w.cell? ((a.add c).add j) = some u := by
  rw [List.getElem?_drop] at hu
  obtain ⟨h0, _⟩ := h
  cases md with
  | true =>
    simp only [if_true] at h0
    have h00 := h0
    obtain ⟨hl, hr⟩ := h0
    rcases hr with ⟨_, rfl⟩ | ⟨g, o, cap, cur, rfl, hg, _⟩
    · have : cs = [] := List.eq_nil_of_length_eq_zero (by simpa using hl)
      subst this
      simp at hu
    · refine ⟨⟨g, o, none⟩, n, cap, rfl, rfl, ?_⟩
      rw [addr_add_add]
      exact ownsAt_cells h00 _ _ hu
  | false =>
    simp only [Bool.false_eq_true, if_false] at h0
    obtain ⟨hl, a, m, c', rfl, hm, _, hnil, hc⟩ := h0
    cases a with
    | none =>
      have hn := hnil rfl
      subst hn
      have : cs = [] := List.eq_nil_of_length_eq_zero (by simpa using hl)
      subst this
      simp at hu
    | some ad =>
      refine ⟨ad, m, c', rfl, hm, ?_⟩
      rw [addr_add_add]
      exact (hc ad rfl).2 _ _ hu

/-- A slice of at least one element has an address. -/
theorem sli_addr {md : Bool} {t s n : Nat} {v : Value} {cs : List Value} {S : Nat → Prop} (h : (sliHP md t s v n cs).p w S) (hn : 0 < n) :
    ∃ a cp, v = .slice (some a) n cp := by
  obtain ⟨h0, _⟩ := h
  cases md with
  | true =>
    simp only [if_true] at h0
    rcases h0.2 with ⟨_, h1⟩ | ⟨g, o, cap, cur, rfl, _⟩
    · omega
    · exact ⟨_, _, rfl⟩
  | false =>
    simp only [Bool.false_eq_true, if_false] at h0
    obtain ⟨_, a, m, c', rfl, hm, _, hnil, _⟩ := h0
    subst hm
    cases a with
    | none => have := hnil rfl; omega
    | some ad => exact ⟨_, _, rfl⟩
theorem sli_len {md : Bool} {t s n : Nat} {v : Value} {cs : List Value} {S : Nat → Prop} (h : (sliHP md t s v n cs).p w S) :
    ∃ a cp, v = .slice a n cp := by
  obtain ⟨h0, _⟩ := h
  cases md with
  | true =>
    simp only [if_true] at h0
    rcases h0.2 with ⟨rfl, rfl⟩ | ⟨g, o, cap, cur, rfl, _⟩
    · exact ⟨_, _, rfl⟩
    · exact ⟨_, _, rfl⟩
  | false =>
    simp only [Bool.false_eq_true, if_false] at h0
    obtain ⟨_, a, m, c', rfl, rfl, _⟩ := h0
    exact ⟨_, _, rfl⟩

end
end Go.RX
