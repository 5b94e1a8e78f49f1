/- AuditLines: the law. -/
import Derived.Test.YtgaabcinjbjbgaaGreatDoorLyF
import Derived.Test.YtgaabcinjbjbgaaGreatDoorLyZ
import Derived.Test.YtgaabcinjbjbgaaGreatDoorAuK
namespace Go.RX.Lw
open Go Go.RX Go.Proofs Go.RX.Ln Go.RX.Lp Go.RX.Lq Go.RowKit
variable {w0 : World} {n0 : Nat}

theorem pureOk : PureOk Tryz.prog cx := by
  intro f args hp r ρ h hvc
  unfold pureRes at h
  simp only [cx] at h
  split at h
  · rename_i g hg
    unfold Ac.pure at hg
    split at hg
    · cases hg
      unfold Ac.pKnown at h
      split at h
      · cases h
        exact Au.known_meets
      · cases h
    · cases hg
  · cases h
/-- A line tells one finding. -/
theorem valid_uniq {l : List UInt8} {k t a d k' t' a' d' : Nat} {A A' : Nat → Int} (h : ValidLine l k t a d A) (h' : ValidLine l k' t' a' d' A') : k = k' ∧ t = t' ∧ a = a' ∧ d = d' ∧ ∀ j, j < 16 → A j = A' j := by
  have e := split_valid h
  rw [split_valid h'] at e
  simp only [List.cons.injEq, and_true] at e
  obtain ⟨e1, e2, e3, e4⟩ := e
  have c1 := cut_at 47 (Lib.decDigits d) (Lib.decDigits a) (dec_not a 47 (by decide))
  have c2 := cut_at 47 (Lib.decDigits d') (Lib.decDigits a') (dec_not a' 47 (by decide))
  rw [e3, c1] at c2
  simp only [Prod.mk.injEq, and_true] at c2
  have b1 := h.ht; have b2 := h'.ht; have b3 := h.ha; have b4 := h'.ha; have b5 := h.hd; have b6 := h'.hd
  refine ⟨?_, dec_inj e2.symm (by omega) (by omega), dec_inj c2.1 (by omega) (by omega), dec_inj c2.2 (by omega) (by omega), fun j hj => ?_⟩
  · have q1 := kindOf_at k h.k1 h.k7
    have q2 := kindOf_at k' h'.k1 h'.k7
    rw [e1, q1] at q2
    exact q2
  · have p1 := hexL_hx A h.hA j hj
    have p2 := hexL_hx A' h'.hA j hj
    rw [e4] at p2
    have r1 := h.hA j hj
    have r2 := h'.hA j hj
    omega
theorem pread_line (hL : Laid0 w0 n0) {l : List UInt8} (hl : l.length ≤ 1000000) {k t a d : Nat} {A : Nat → Int} (h : ValidLine l k t a d A) : Meets Tryz.prog 24 [strV l] [keptHP n0 w0] fun v hs => v = findE k t a d A ∧ hs = [keptHP n0 w0] := by
  refine (pread_meets hL l hl).post ?_
  rintro v hs ⟨hq, rfl⟩
  rcases hq with ⟨k', t', a', d', A', h', rfl⟩ | ⟨rfl, hn⟩
  · obtain ⟨rfl, rfl, rfl, rfl, hA⟩ := valid_uniq h h'
    refine ⟨_, Ent.refl _, ?_, rfl⟩
    unfold findE
    rw [segCells_congr .u8 16 hA]
  · exact absurd h (hn k t a d A)
theorem pread_none (hL : Laid0 w0 n0) {l : List UInt8} (hl : l.length ≤ 1000000) (h : ∀ k t a d A, ¬ ValidLine l k t a d A) : Meets Tryz.prog 24 [strV l] [keptHP n0 w0] fun v hs => v = noE ∧ hs = [keptHP n0 w0] := by
  refine (pread_meets hL l hl).post ?_
  rintro v hs ⟨hq, rfl⟩
  rcases hq with ⟨k', t', a', d', A', h', rfl⟩ | ⟨rfl, _⟩
  · exact absurd h' (h k' t' a' d' A')
  · exact ⟨_, Ent.refl _, rfl, rfl⟩
/-- What both readers answer. -/
theorem both_read (hL : Laid0 w0 n0) (l : List UInt8) (hl : l.length ≤ 300) : ∃ (y4 y5 y6 y7 y8 : Int) (B : Nat → Int) (q : Bool),
    (Meets Tryz.prog 24 [strV l] [keptHP n0 w0] fun v hs => v = .tuple #[.agg (.int .u8 y4 :: .int .i64 y5 :: .int .u8 y6 :: .int .u8 y7 :: List.append (segCells .u8 16 B) []).toArray, .int .i64 y8] ∧ hs = [keptHP n0 w0]) ∧
    (Meets Tryz.prog 25 [strV l] [] fun v hs => v = findV y4 y5 y6 y7 B q ∧ hs = []) ∧ ((y8 = 0 ∧ q = true) ∨ (y8 = 2 ∧ q = false)) := by
  by_cases h : ∃ (k t a d : Nat) (A : Nat → Int), ValidLine l k t a d A
  · obtain ⟨k, t, a, d, A, h⟩ := h
    exact ⟨k, t, a, d, 0, A, true, pread_line hL (by omega) h, rread_line l k t a d A h, Or.inl ⟨rfl, rfl⟩⟩
  · have h' : ∀ (k t a d : Nat) (A : Nat → Int), ¬ ValidLine l k t a d A := fun k t a d A hv => h ⟨k, t, a, d, A, hv⟩
    exact ⟨0, 0, 0, 0, 2, fun _ => 0, false, pread_none hL (by omega) h', rread_none l (by omega) h', Or.inr ⟨rfl, rfl⟩⟩
theorem law_meets (hL : Laid0 w0 n0) (x0 x1 x2 x3 : Int) (A : Nat → Int) (l : List UInt8) (g0 : 0 ≤ x0 ∧ x0 ≤ 255) (g1 : x1 ≤ 9223372036854775807) (g2 : 0 ≤ x2 ∧ x2 ≤ 255) (g3 : 0 ≤ x3 ∧ x3 ≤ 255) (gA : ∀ j, j < 16 → 0 ≤ A j ∧ A j ≤ 255) :
    Meets Tryz.prog 5 [.agg (.int .u8 x0 :: .int .i64 x1 :: .int .u8 x2 :: .int .u8 x3 :: (segCells .u8 16 A ++ [])).toArray, strV l] [keptHP n0 w0] (fun v hs => v = .bool true ∧ hs = [keptHP n0 w0]) := by
  have e0 : strV l = (SV.strE (.avar 1)).val { iv := [x0, x1, x2, x3], av := [A, rowS l], pv := [keptHP n0 w0] } := strV_row l
  rw [e0]
  refine Meets.of_look (C := cx) (cnt := { i := 4, a := 2, p := 1 }) (ρ := { iv := [x0, x1, x2, x3], av := [A, rowS l], pv := [keptHP n0 w0] }) okT okFT okM Tryz.func5 (by constructor <;> rfl) rfl rfl
    (fun v => v = .bool true) (args := [.agg [.int .u8 (.var 0), .int .i64 (.var 1), .int .u8 (.var 2), .int .u8 (.var 3), .seg .u8 16 (.avar 0)], .strE (.avar 1)]) run_lines (vc_lines Tryz.prog (fun v _ => v = .bool true) x0 x1 x2 x3 A (rowS l) (keptHP n0 w0) (fun _ => LC.none)) ?_ pureOk
  unfold st_lines
  rw [rowS0, strD_rowS]
  intro _
  refine ⟨by omega, fun _ => ⟨fun _ => rfl, fun hb => ?_⟩⟩
  have hl : l.length ≤ 300 := by omega
  refine ⟨_, pline_meets hL x0 x1 x2 x3 A g0 g1 g2 g3 gA, ?_⟩
  rintro _ _ ⟨rfl, rfl⟩
  generalize hS : (if (x0 < 1 ∨ 7 < x0) ∨ x1 < 0 then [] else lineL x0.toNat x1.toNat x2.toNat x3.toNat A) = S
  refine ⟨rowS S, _, by rw [strV_row], rfl, _, rline_meets x0 x1 x2 x3 A g0.1 g1 g2 g3 gA, ?_⟩
  rintro _ _ ⟨rfl, rfl⟩
  rw [hS]
  have hSb : S = [] ↔ ((x0 < 1 ∨ 7 < x0) ∨ x1 < 0) := by
    by_cases hc : (x0 < 1 ∨ 7 < x0) ∨ x1 < 0
    · rw [if_pos hc] at hS
      exact ⟨fun _ => hc, fun _ => hS.symm⟩
    · rw [if_neg hc] at hS
      refine ⟨fun h => ?_, fun h => absurd h hc⟩
      rw [h, lineL_tail] at hS
      simp at hS
  obtain ⟨y4, y5, y6, y7, y8, B, q, m1, m2, hyq⟩ := both_read hL l hl
  refine ⟨rowS S, by rw [strV_row], rfl, _, m1, ?_⟩
  rintro _ _ ⟨rfl, rfl⟩
  refine ⟨y4, y5, y6, y7, y8, B, rfl, rfl, fun _ => ⟨_, m2, ?_⟩⟩
  rintro _ _ ⟨rfl, rfl⟩
  refine ⟨y4, y5, y6, y7, B, q, rfl, rfl, fun _ => ⟨fun h => ?_, fun _ => ⟨fun _ => rfl, fun hg => ?_⟩⟩⟩
  · exfalso
    have hempty : strD (rowLF [0]) = [] := rfl
    rw [strD_rowS, hempty] at h
    rcases h with (((h | h) | h) | h) | h
    · exact h rfl
    · apply h
      rw [hSb]
      exact ⟨fun h1 h2 => by rw [decide_eq_true h2] at h1; exact absurd h1 (by decide), fun h1 => Decidable.byContradiction fun h2 => h1 (by rw [decide_eq_false h2]; rfl)⟩
    · exact h ⟨rfl, rfl, rfl, rfl, fun _ _ => rfl⟩
    · rcases hyq with ⟨rfl, rfl⟩ | ⟨rfl, rfl⟩ <;> exact h (by decide)
    · rcases hyq with ⟨rfl, rfl⟩ | ⟨rfl, rfl⟩ <;> exact absurd h (by decide)
  · have hc : ¬ ((x0 < 1 ∨ 7 < x0) ∨ x1 < 0) := by
      intro hc
      rw [decide_eq_true hc] at hg
      exact hg (by decide)
    rw [if_neg hc] at hS
    have hv : ValidLine S x0.toNat x1.toNat x2.toNat x3.toNat A := ⟨by omega, by omega, by omega, by omega, by omega, gA, hS.symm⟩
    have l1 := dec_le x1 g1
    have l2 := dec_le x2 (by omega)
    have l3 := dec_le x3 (by omega)
    have hw7 : (wordL x0.toNat).length ≤ 7 := by
      have hk : x0.toNat = 1 ∨ x0.toNat = 2 ∨ x0.toNat = 3 ∨ x0.toNat = 4 ∨ x0.toNat = 5 ∨ x0.toNat = 6 ∨ x0.toNat = 7 := by omega
      rcases hk with h | h | h | h | h | h | h <;> rw [h] <;> decide
    have hlS : S.length ≤ 1000000 := by
      rw [← hS]
      simp only [lineL, List.length_append, List.length_singleton, hexL_len]
      omega
    rw [strD_rowS]
    refine ⟨_, pread_line hL hlS hv, ?_⟩
    rintro _ _ ⟨rfl, rfl⟩
    refine ⟨_, _, _, _, _, A, rfl, rfl, fun _ => ?_⟩
    show Value.bool _ = _
    rw [show ((x0.toNat : Nat) : Int) = x0 by omega, show ((x1.toNat : Nat) : Int) = x1 by omega, show ((x2.toNat : Nat) : Int) = x2 by omega, show ((x3.toNat : Nat) : Int) = x3 by omega]
    simp
end Go.RX.Lw
