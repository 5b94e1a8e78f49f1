/- AuditLines: the document's reader of a number. · What the library's functions do is what the executor takes them to do: where moves are read and printed. -/
import Derived.Test.YtgaabcinjbjbgaaDoorM29
import Derived.Test.YtgaabcinjbjbgaaDoorM27
import Derived.Test.YtgaabcinjbjbgaaDoorM28
import Derived.Test.YtgaabcinjbjbgaaDoorM26

namespace Go.RX.Ln
open Go.RX Go.Proofs
theorem sby_row (l : List UInt8) (j : Nat) (h : j < l.length) : sbyF (rowS l) j = ((l[j]'h).toNat : Int) := by
  have := strD_get (rowS l) (j := j) (by rw [rowS0]; omega)
  rw [strD_rowS, List.getElem?_eq_getElem h] at this
  simpa using this.symm
end Go.RX.Ln

namespace Go.RX.Sc
open Go Go.RX Go.Proofs Go.RowKit Go.RX.Au
set_option maxHeartbeats 1000000 in
set_option maxRecDepth 100000 in
theorem builderLen (b : Nat) (bs : List Value) (w : World) (S : Nat → Prop) (h : (bldHP b 47 5 bs).p w S) :
    Calls Tryd.prog 14 #[.pointer (some ⟨b, 0, none⟩)] w fun e w' => e = .returned (.int .i64 bs.length) ∧ w' = w := by
  obtain ⟨pv, v, hb0, hpv, hown0, hne, hS⟩ := h
  have c1 : w.cell? ⟨b, 1, none⟩ = some v := by rw [Lib.cell_of_heap hb0]; rfl
  obtain ⟨ao, cap, rfl⟩ : ∃ ao cap, v = .slice ao bs.length cap := by
    rcases hown0.2 with ⟨hv, h0⟩ | ⟨g, cap, cur, hv, _⟩
    · exact ⟨none, 0, by rw [hv, h0]⟩
    · exact ⟨_, _, hv⟩
  go_enter Tryd.func14, Tryd.ntmps14
  go_wp2
  go_ret
  exact ⟨rfl, rfl⟩
theorem seg_cat (N L : Nat) (f a s : Nat → Int) (hL : L = (s 0).toNat) (h1 : ∀ j, j < N → f j = a j) (h2 : ∀ j, j < L → f (N + j) = sbyF s j) :
    segCells .u8 (N + L) f = segCells .u8 N a ++ Lib.strCells ⟨(strD s).toArray⟩ := by
  have hl : (Lib.strCells ⟨(strD s).toArray⟩).length = L := by rw [Lib.strCells_length, hL]; simp [ByteArray.size, strD_length]
  apply List.ext_getElem?
  intro k
  rw [segCells_getElem?]
  by_cases hk : k < N
  · rw [if_pos (by omega), List.getElem?_append_left (by rw [segCells_length]; exact hk), segCells_getElem?, if_pos hk, h1 k hk]
  · rw [List.getElem?_append_right (by rw [segCells_length]; omega), segCells_length]
    by_cases hk2 : k < N + L
    · rw [if_pos hk2]
      have := h2 (k - N) (by omega)
      rw [show N + (k - N) = k by omega] at this
      rw [this]
      have hj : k - N < (s 0).toNat := by omega
      simp only [Lib.strCells, List.getElem?_map]
      rw [strD_getD s hj]
      rfl
    · rw [if_neg hk2, List.getElem?_eq_none (by omega)]
theorem catB_seg (ρ : Env) {n a e : E} {s : SV} (he : toStrE s = some e) (hn : 0 ≤ n.den ρ 0) (hl : 0 ≤ e.den ρ 0) :
    segCells .u8 ((eAdd n (eLen e)).den ρ 0).toNat ((catB a n s e).den ρ) = segCells .u8 (n.den ρ 0).toNat (a.den ρ) ++ Lib.strCells ⟨(strD (e.den ρ)).toArray⟩ := by
  have gen : segCells .u8 ((eAdd n (eLen e)).den ρ 0).toNat ((E.spl a n (eLen e) (eSby e)).den ρ) = segCells .u8 (n.den ρ 0).toNat (a.den ρ) ++ Lib.strCells ⟨(strD (e.den ρ)).toArray⟩ := by
    rw [eAdd_den, eLen_den, show (n.den ρ 0 + e.den ρ 0).toNat = (n.den ρ 0).toNat + (e.den ρ 0).toNat by omega]
    refine seg_cat _ _ _ _ _ rfl ?_ ?_
    · intro j hj
      simp only [E.den]
      rw [if_neg (by omega)]
    · intro j hj
      simp only [E.den, eSby_den, eLen_den]
      rw [if_pos (by omega)]
      congr 1
      omega
  unfold catB
  split
  · rename_i k l hk
    split
    · rename_i xs hxs
      have hkn := litNat_den (ρ := ρ) hk
      have hx := litsOf_den (ρ := ρ) hxs
      simp only [toStrE, Option.some.injEq] at he
      subst he
      rw [eAdd_den, eLen_den, hkn, show ((k : Int) + (rowB l).den ρ 0).toNat = k + ((rowB l).den ρ 0).toNat by omega, Int.toNat_natCast]
      have h0 : (rowB l).den ρ 0 = l.length := by rw [rowB_den]; rfl
      have hxl : xs.length = k := by rw [hx]; simp
      refine seg_cat _ _ _ _ _ rfl ?_ ?_
      · intro j hj
        simp only [E.den]
        rw [List.getD_eq_getElem?_getD, List.getElem?_append_left (by omega), hx]
        simp [hj]
      · intro j hj
        rw [h0] at hj
        have hj : j < l.length := by omega
        simp only [E.den]
        rw [List.getD_eq_getElem?_getD, List.getElem?_append_right (by omega), hxl, show k + j - k = j by omega, rowB_den, Ln.sby_row l j hj]
        simp [hj]
    · exact gen
  · exact gen
theorem join_sli (md : Bool) (v : Value) (xs : List (List UInt8)) (sep : List UInt8) (h1 : 1 ≤ xs.length) (hn : xs.length ≤ 1000000) (hl : (Lib.join xs sep).length ≤ 140737488355328) :
    Meets Tryd.prog 25 [v, .string ⟨sep.toArray⟩] [sliHP md 9 1 v xs.length (xs.map fun l => .string ⟨l.toArray⟩)] fun x hs => x = .string ⟨(Lib.join xs sep).toArray⟩ ∧ hs = [sliHP md 9 1 v xs.length (xs.map fun l => .string ⟨l.toArray⟩)] := by
  refine meets_below fun w Fs ho => ?_
  obtain ⟨S, hS⟩ := ho
  obtain ⟨hp, hlt⟩ := hS.at_ 0 _ rfl
  obtain ⟨⟨a, m, c, rfl, hm, hmc, h0, hc⟩, _⟩ := sli_views hp
  subst hm
  cases a with
  | none => have := h0 rfl; omega
  | some ad =>
    obtain ⟨hsp, hcell⟩ := hc ad rfl
    have hsp := hsp (by omega)
    obtain ⟨bk, o, sp⟩ := ad
    simp only at hsp
    subst hsp
    have hb : bk < w.heap.size := hlt bk ((hp.2 bk).2 ⟨rfl, .inr (by omega)⟩)
    have hcells : ∀ (q : Nat) x, (xs.map fun l => (⟨l.toArray⟩ : ByteArray))[q]? = some x → w.cell? ⟨bk, o + q, none⟩ = some (.string x) := by
      intro q x hx
      have := hcell q (.string x) (by
        rw [List.getElem?_map] at hx ⊢
        cases hq : xs[q]? with
        | none => rw [hq] at hx; cases hx
        | some y =>
          rw [hq] at hx
          cases hx
          rfl)
      rw [addr_add_at] at this
      exact this
    have he : ((xs.map fun l => (⟨l.toArray⟩ : ByteArray)).map (·.data.toList)) = xs := by
      rw [List.map_map]
      exact (List.map_congr_left fun _ _ => rfl).trans (List.map_id _)
    have := Tryd.strings_Join bk o c (xs.map fun l => ⟨l.toArray⟩) ⟨sep.toArray⟩ w hcells hb (by simp; omega) (by simpa using hmc) (by rw [he]; exact hl)
    rw [he, List.length_map] at this
    exact this
theorem strsAt_den (ρ : Env) (a : E) (n : Nat) : (strsAt a n).map (fun e => strD (e.den ρ)) = (List.range n).map fun j => strD (at2F (a.den ρ) j) := by
  unfold strsAt
  rw [List.map_map]
  refine List.map_congr_left fun j _ => ?_
  simp only [Function.comp, eAt2_den, den_lit, Int.toNat_natCast]
theorem tab_str (f : Nat → Int) (n : Nat) : tabL n [colV 1 (fun j => .string ⟨(strD (at2F f j)).toArray⟩)] = ((List.range n).map fun j => strD (at2F f j)).map fun l => .string ⟨l.toArray⟩ := by
  unfold tabL
  rw [List.map_map]
  have h1 : List.range 1 = [0] := rfl
  simp only [List.flatMap_cons, List.flatMap_nil, List.append_nil, colV, h1, List.map_cons, List.map_nil, Nat.mul_one, Nat.add_zero]
  induction n with
  | zero => rfl
  | succ n ih =>
    rw [List.range_succ, List.flatMap_append, List.map_append, ih]
    simp
theorem strLit_den (ρ : Env) {e : E} {l : List UInt8} (h : strLit e = some l) : strD (e.den ρ) = l := by
  unfold strLit at h
  split at h
  · rename_i r
    split at h
    · rename_i l' hl
      cases h
      have := mkStr_val (ρ := ρ) (.rowl r)
      rw [hl] at this
      simp only [SV.val, Value.string.injEq] at this
      have h2 := congrArg (fun b : ByteArray => b.data.toList) this
      simpa using h2.symm
    · cases h
  · cases h
theorem strLits_den (ρ : Env) : ∀ {es : List E} {xs : List (List UInt8)}, strLits es = some xs → es.map (fun e => strD (e.den ρ)) = xs
  | [], xs, h => by simp [strLits] at h; simp [h]
  | e :: r, xs, h => by
    unfold strLits at h
    split at h
    · rename_i l ls hl hls
      cases h
      rw [List.map_cons, strLit_den ρ hl, strLits_den ρ hls]
    · cases h
theorem catAll_den (ρ : Env) (sep : E) (h0 : 0 ≤ sep.den ρ 0) : ∀ {es : List E}, (∀ e ∈ es, 0 ≤ e.den ρ 0) → strD ((catAll sep es).den ρ) = joinL (strD (sep.den ρ)) (es.map fun e => strD (e.den ρ)) ∧ 0 ≤ (catAll sep es).den ρ 0
  | [], _ => ⟨rfl, Int.le_refl _⟩
  | [x], h => ⟨rfl, h x (by simp)⟩
  | x :: y :: r, h => by
    obtain ⟨ih, ih0⟩ := catAll_den ρ sep h0 (es := y :: r) fun e he => h e (List.mem_cons_of_mem _ he)
    have hx := h x (by simp)
    have c0 : 0 ≤ (eCat x sep).den ρ 0 := by simp only [eCat, E.den, eAdd_den, eLen_den, den_upd]; simp; omega
    refine ⟨?_, ?_⟩
    · rw [catAll, eCat_den ρ _ _ c0 ih0, eCat_den ρ _ _ hx h0, ih]
      rfl
    · rw [catAll]
      simp only [eCat, E.den, eAdd_den, eLen_den, den_upd] at c0 ⊢
      simp at c0 ⊢
      omega
theorem lenAll_den (ρ : Env) (sep : List UInt8) : ∀ {es : List E}, (∀ e ∈ es, 0 ≤ e.den ρ 0) → (((joinL sep (es.map fun e => strD (e.den ρ))).length : Nat) : Int) = (lenAll sep.length es).den ρ 0
  | [], _ => rfl
  | [x], h => by
    have := h x (by simp)
    simp only [List.map_cons, List.map_nil, joinL, lenAll, eLen_den, strD_length]
    omega
  | x :: y :: r, h => by
    have ih := lenAll_den ρ sep (es := y :: r) fun e he => h e (List.mem_cons_of_mem _ he)
    have hx := h x (by simp)
    simp only [List.map_cons] at ih
    simp only [List.map_cons, joinL, lenAll, eAdd_den, eLen_den, den_lit, List.length_append, strD_length]
    rw [← ih]
    omega
end Go.RX.Sc
