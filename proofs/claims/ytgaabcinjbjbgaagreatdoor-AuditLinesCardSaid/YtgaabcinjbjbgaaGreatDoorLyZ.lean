/- AuditLines: the program's reader of a line. -/
import Derived.Test.YtgaabcinjbjbgaaGreatDoorLyW
import Derived.Test.YtgaabcinjbjbgaaGreatDoorLyF
import Derived.Test.YtgaabcinjbjbgaaGreatDoorLyL

namespace Go.RX.Lp
open Go.RX Go.Proofs Go.RX.Ln

theorem pureOk : PureOk Tryz.prog cx := fun f args hp r ρ h hvc => Au.pureOk0 TT FT (fun _ _ => none) (fun _ _ => none) f args hp r ρ h hvc
theorem band15 : ∀ a : Fin 256, iop .band .u8 (a.val : Int) 15 = ((a.val % 16 : Nat) : Int) := by decide +kernel
theorem band_at (a : Int) (h : 0 ≤ a ∧ a ≤ 255) : iop .band .u8 a 15 = a % 16 := by
  have := band15 ⟨a.toNat, by omega⟩
  simp only at this
  rw [show ((a.toNat : Nat) : Int) = a by omega] at this
  rw [this]
  omega
theorem shr_at (a : Int) (_ : 0 ≤ a ∧ a ≤ 255) : iop .shr .u8 a 4 = a / 16 := by
  show a.fdiv 16 = a / 16
  rw [Int.fdiv_eq_ediv_of_nonneg _ (by decide)]
theorem half_range : ∀ v : Nat, v < 16 → 0 ≤ rowLF [48, 49, 50, 51, 52, 53, 54, 55, 56, 57, 97, 98, 99, 100, 101, 102] v ∧ rowLF [48, 49, 50, 51, 52, 53, 54, 55, 56, 57, 97, 98, 99, 100, 101, 102] v ≤ 255 := by decide
def hexP (A : Nat → Int) : List UInt8 := (List.range 16).flatMap fun i => [UInt8.ofNat (rowLF halfs (Int.toNat (iop .shr .u8 (A i) 4))).toNat, UInt8.ofNat (rowLF halfs (Int.toNat (iop .band .u8 (A i) 15))).toNat]
theorem hexP_eq (A : Nat → Int) (hA : ∀ j, j < 16 → 0 ≤ A j ∧ A j ≤ 255) : hexP A = hexL A := by
  unfold hexP hexL
  rw [List.flatMap_def, List.flatMap_def]
  congr 1
  refine List.map_congr_left fun i hi => ?_
  have h := hA i (List.mem_range.1 hi)
  rw [shr_at _ h, band_at _ h]
  simp only [iop]
  rw [Int.tdiv_eq_ediv_of_nonneg h.1, Int.tmod_eq_emod_of_nonneg h.1, IntWalk.u8_in _ (by omega)]

variable {w0 : World} {n0 : Nat}
theorem words7 : ∀ k : Nat, k < 7 → strD (at2F (strTabF [[5, 101, 118, 101, 110, 116], [5, 98, 121, 116, 101, 115], [7, 109, 105, 115, 115, 105, 110, 103], [6, 117, 110, 108, 105, 107, 101], [4, 109, 111, 114, 101], [5, 111, 114, 100, 101, 114], [4, 111, 112, 101, 110]]) k) = wordL (k + 1) ∧ (wordL (k + 1)).length ≤ 7 := by
  intro k hk
  have : k = 0 ∨ k = 1 ∨ k = 2 ∨ k = 3 ∨ k = 4 ∨ k = 5 ∨ k = 6 := by omega
  rcases this with rfl | rfl | rfl | rfl | rfl | rfl | rfl <;> exact ⟨by decide +kernel, by decide⟩
theorem join4 (a b c d : List UInt8) : Lib.join [a, b, c, d] [32] = a ++ [32] ++ b ++ [32] ++ c ++ [32] ++ d := by simp [Lib.join, List.intercalate]
theorem pline_meets (hL : Laid0 w0 n0) (x0 x1 x2 x3 : Int) (A : Nat → Int) (g0 : 0 ≤ x0 ∧ x0 ≤ 255) (g1 : x1 ≤ 9223372036854775807) (g2 : 0 ≤ x2 ∧ x2 ≤ 255) (g3 : 0 ≤ x3 ∧ x3 ≤ 255) (gA : ∀ j, j < 16 → 0 ≤ A j ∧ A j ≤ 255) :
    Meets Tryz.prog 22 [.agg (.int .u8 x0 :: .int .i64 x1 :: .int .u8 x2 :: .int .u8 x3 :: (segCells .u8 16 A ++ [])).toArray] [keptHP n0 w0]
      (fun v hs => v = .tuple #[strV (if (x0 < 1 ∨ 7 < x0) ∨ x1 < 0 then [] else lineL x0.toNat x1.toNat x2.toNat x3.toNat A), .bool (!decide ((x0 < 1 ∨ 7 < x0) ∨ x1 < 0))] ∧ hs = [keptHP n0 w0]) := by
  refine Meets.of_look (C := cx) (cnt := { i := 4, a := 1, p := 1 }) (ρ := { iv := [x0, x1, x2, x3], av := [A], pv := [keptHP n0 w0] }) okT okFT okM Tryz.func22 (by constructor <;> rfl) rfl rfl
    (fun v => v = .tuple #[strV (if (x0 < 1 ∨ 7 < x0) ∨ x1 < 0 then [] else lineL x0.toNat x1.toNat x2.toNat x3.toNat A), .bool (!decide ((x0 < 1 ∨ 7 < x0) ∨ x1 < 0))])
    (args := [.agg [.int .u8 (.var 0), .int .i64 (.var 1), .int .u8 (.var 2), .int .u8 (.var 3), .seg .u8 16 (.avar 0)]]) run_pline
    (vc_pline Tryz.prog (fun v _ => v = .tuple #[strV (if (x0 < 1 ∨ 7 < x0) ∨ x1 < 0 then [] else lineL x0.toNat x1.toNat x2.toNat x3.toNat A), .bool (!decide ((x0 < 1 ∨ 7 < x0) ∨ x1 < 0))]) x0 x1 x2 x3 A (keptHP n0 w0) (fun _ => LC.none)) ?_ pureOk
  have hx : ∀ j, j < 16 → 0 ≤ iop .shr .u8 (A j) 4 ∧ iop .shr .u8 (A j) 4 < 16 ∧ 0 ≤ iop .band .u8 (A j) 15 ∧ iop .band .u8 (A j) 15 < 16 := by
    intro j hj
    have := gA j hj
    rw [shr_at _ this, band_at _ this]
    omega
  have hy := fun j hj => (⟨(half_range (Int.toNat (iop .shr .u8 (A j) 4)) (by have := hx j hj; omega)).1, (half_range (Int.toNat (iop .shr .u8 (A j) 4)) (by have := hx j hj; omega)).2,
    (half_range (Int.toNat (iop .band .u8 (A j) 15)) (by have := hx j hj; omega)).1, (half_range (Int.toNat (iop .band .u8 (A j) 15)) (by have := hx j hj; omega)).2⟩ : _ ∧ _ ∧ _ ∧ _)
  unfold st_pline
  refine fun _ _ => ⟨by omega, fun _ => ⟨by omega, fun _ => ⟨fun h => ?_, fun h => ?_⟩⟩⟩
  · show _ = _
    rw [if_pos h, decide_eq_true h]
    rfl
  · rw [if_neg h, decide_eq_false h]
    have hk : IntKind.wrap .u8 (x0 - 1) = x0 - 1 := IntWalk.u8_in _ (by omega)
    rw [hk]
    intro _
    refine ⟨(hx 0 (by decide)).1, fun _ => ⟨(hx 0 (by decide)).2.1, fun _ => ⟨(hx 0 (by decide)).2.2.1, fun _ => ⟨(hx 0 (by decide)).2.2.2, fun _ => ?_⟩⟩⟩⟩
    refine ⟨(hx 1 (by decide)).1, fun _ => ⟨(hx 1 (by decide)).2.1, fun _ => ⟨(hx 1 (by decide)).2.2.1, fun _ => ⟨(hx 1 (by decide)).2.2.2, fun _ => ?_⟩⟩⟩⟩
    refine ⟨(hx 2 (by decide)).1, fun _ => ⟨(hx 2 (by decide)).2.1, fun _ => ⟨(hx 2 (by decide)).2.2.1, fun _ => ⟨(hx 2 (by decide)).2.2.2, fun _ => ?_⟩⟩⟩⟩
    refine ⟨(hx 3 (by decide)).1, fun _ => ⟨(hx 3 (by decide)).2.1, fun _ => ⟨(hx 3 (by decide)).2.2.1, fun _ => ⟨(hx 3 (by decide)).2.2.2, fun _ => ?_⟩⟩⟩⟩
    refine ⟨(hx 4 (by decide)).1, fun _ => ⟨(hx 4 (by decide)).2.1, fun _ => ⟨(hx 4 (by decide)).2.2.1, fun _ => ⟨(hx 4 (by decide)).2.2.2, fun _ => ?_⟩⟩⟩⟩
    refine ⟨(hx 5 (by decide)).1, fun _ => ⟨(hx 5 (by decide)).2.1, fun _ => ⟨(hx 5 (by decide)).2.2.1, fun _ => ⟨(hx 5 (by decide)).2.2.2, fun _ => ?_⟩⟩⟩⟩
    refine ⟨(hx 6 (by decide)).1, fun _ => ⟨(hx 6 (by decide)).2.1, fun _ => ⟨(hx 6 (by decide)).2.2.1, fun _ => ⟨(hx 6 (by decide)).2.2.2, fun _ => ?_⟩⟩⟩⟩
    refine ⟨(hx 7 (by decide)).1, fun _ => ⟨(hx 7 (by decide)).2.1, fun _ => ⟨(hx 7 (by decide)).2.2.1, fun _ => ⟨(hx 7 (by decide)).2.2.2, fun _ => ?_⟩⟩⟩⟩
    refine ⟨(hx 8 (by decide)).1, fun _ => ⟨(hx 8 (by decide)).2.1, fun _ => ⟨(hx 8 (by decide)).2.2.1, fun _ => ⟨(hx 8 (by decide)).2.2.2, fun _ => ?_⟩⟩⟩⟩
    refine ⟨(hx 9 (by decide)).1, fun _ => ⟨(hx 9 (by decide)).2.1, fun _ => ⟨(hx 9 (by decide)).2.2.1, fun _ => ⟨(hx 9 (by decide)).2.2.2, fun _ => ?_⟩⟩⟩⟩
    refine ⟨(hx 10 (by decide)).1, fun _ => ⟨(hx 10 (by decide)).2.1, fun _ => ⟨(hx 10 (by decide)).2.2.1, fun _ => ⟨(hx 10 (by decide)).2.2.2, fun _ => ?_⟩⟩⟩⟩
    refine ⟨(hx 11 (by decide)).1, fun _ => ⟨(hx 11 (by decide)).2.1, fun _ => ⟨(hx 11 (by decide)).2.2.1, fun _ => ⟨(hx 11 (by decide)).2.2.2, fun _ => ?_⟩⟩⟩⟩
    refine ⟨(hx 12 (by decide)).1, fun _ => ⟨(hx 12 (by decide)).2.1, fun _ => ⟨(hx 12 (by decide)).2.2.1, fun _ => ⟨(hx 12 (by decide)).2.2.2, fun _ => ?_⟩⟩⟩⟩
    refine ⟨(hx 13 (by decide)).1, fun _ => ⟨(hx 13 (by decide)).2.1, fun _ => ⟨(hx 13 (by decide)).2.2.1, fun _ => ⟨(hx 13 (by decide)).2.2.2, fun _ => ?_⟩⟩⟩⟩
    refine ⟨(hx 14 (by decide)).1, fun _ => ⟨(hx 14 (by decide)).2.1, fun _ => ⟨(hx 14 (by decide)).2.2.1, fun _ => ⟨(hx 14 (by decide)).2.2.2, fun _ => ?_⟩⟩⟩⟩
    refine ⟨(hx 15 (by decide)).1, fun _ => ⟨(hx 15 (by decide)).2.1, fun _ => ⟨(hx 15 (by decide)).2.2.1, fun _ => ⟨(hx 15 (by decide)).2.2.2, fun _ => ?_⟩⟩⟩⟩
    have l1 := dec_le x1 g1
    have l2 := dec_le x2 (by omega)
    have l3 := dec_le x3 (by omega)
    have e1 := rowS0 (Lib.itoa x1)
    have e2 := rowS0 (Lib.itoa x2)
    have e3 := rowS0 (Lib.itoa x3)
    have i1 : Lib.itoa x1 = Lib.decDigits x1.toNat := by unfold Lib.itoa; rw [if_neg (by omega)]
    have i2 : Lib.itoa x2 = Lib.decDigits x2.toNat := by unfold Lib.itoa; rw [if_neg (by omega)]
    have i3 : Lib.itoa x3 = Lib.decDigits x3.toNat := by unfold Lib.itoa; rw [if_neg (by omega)]
    rw [i1] at e1
    rw [i2] at e2
    rw [i3] at e3
    refine ⟨by omega, fun _ => ⟨by omega, fun _ => ⟨by omega, fun _ => ⟨by omega, fun _ => ⟨by omega, fun _ => ⟨by omega, fun _ => ?_⟩⟩⟩⟩⟩⟩
    refine ⟨_, itoa_meets hL x1 (by omega) g1, ?_⟩
    rintro _ _ ⟨rfl, rfl⟩
    refine ⟨rowS (Lib.decDigits x1.toNat), by rw [i1]; exact strV_row _, rfl, ?_⟩
    refine ⟨_, itoa_meets hL x2 (by omega) (by omega), ?_⟩
    rintro _ _ ⟨rfl, rfl⟩
    refine ⟨rowS (Lib.decDigits x2.toNat), by rw [i2]; exact strV_row _, rfl, ?_⟩
    rw [e2]
    refine ⟨by omega, fun _ => ⟨by omega, fun _ => ?_⟩⟩
    refine ⟨_, itoa_meets hL x3 (by omega) (by omega), ?_⟩
    rintro _ _ ⟨rfl, rfl⟩
    refine ⟨rowS (Lib.decDigits x3.toNat), by rw [i3]; exact strV_row _, rfl, ?_⟩
    rw [e3]
    refine ⟨by omega, fun _ => ⟨by omega, fun _ => ⟨by omega, fun _ => ?_⟩⟩⟩
    refine ⟨(hy 0 (by decide)).1, fun _ => ⟨(hy 0 (by decide)).2.1, fun _ => ⟨(hy 0 (by decide)).2.2.1, fun _ => ⟨(hy 0 (by decide)).2.2.2, fun _ => ?_⟩⟩⟩⟩
    refine ⟨(hy 1 (by decide)).1, fun _ => ⟨(hy 1 (by decide)).2.1, fun _ => ⟨(hy 1 (by decide)).2.2.1, fun _ => ⟨(hy 1 (by decide)).2.2.2, fun _ => ?_⟩⟩⟩⟩
    refine ⟨(hy 2 (by decide)).1, fun _ => ⟨(hy 2 (by decide)).2.1, fun _ => ⟨(hy 2 (by decide)).2.2.1, fun _ => ⟨(hy 2 (by decide)).2.2.2, fun _ => ?_⟩⟩⟩⟩
    refine ⟨(hy 3 (by decide)).1, fun _ => ⟨(hy 3 (by decide)).2.1, fun _ => ⟨(hy 3 (by decide)).2.2.1, fun _ => ⟨(hy 3 (by decide)).2.2.2, fun _ => ?_⟩⟩⟩⟩
    refine ⟨(hy 4 (by decide)).1, fun _ => ⟨(hy 4 (by decide)).2.1, fun _ => ⟨(hy 4 (by decide)).2.2.1, fun _ => ⟨(hy 4 (by decide)).2.2.2, fun _ => ?_⟩⟩⟩⟩
    refine ⟨(hy 5 (by decide)).1, fun _ => ⟨(hy 5 (by decide)).2.1, fun _ => ⟨(hy 5 (by decide)).2.2.1, fun _ => ⟨(hy 5 (by decide)).2.2.2, fun _ => ?_⟩⟩⟩⟩
    refine ⟨(hy 6 (by decide)).1, fun _ => ⟨(hy 6 (by decide)).2.1, fun _ => ⟨(hy 6 (by decide)).2.2.1, fun _ => ⟨(hy 6 (by decide)).2.2.2, fun _ => ?_⟩⟩⟩⟩
    refine ⟨(hy 7 (by decide)).1, fun _ => ⟨(hy 7 (by decide)).2.1, fun _ => ⟨(hy 7 (by decide)).2.2.1, fun _ => ⟨(hy 7 (by decide)).2.2.2, fun _ => ?_⟩⟩⟩⟩
    refine ⟨(hy 8 (by decide)).1, fun _ => ⟨(hy 8 (by decide)).2.1, fun _ => ⟨(hy 8 (by decide)).2.2.1, fun _ => ⟨(hy 8 (by decide)).2.2.2, fun _ => ?_⟩⟩⟩⟩
    refine ⟨(hy 9 (by decide)).1, fun _ => ⟨(hy 9 (by decide)).2.1, fun _ => ⟨(hy 9 (by decide)).2.2.1, fun _ => ⟨(hy 9 (by decide)).2.2.2, fun _ => ?_⟩⟩⟩⟩
    refine ⟨(hy 10 (by decide)).1, fun _ => ⟨(hy 10 (by decide)).2.1, fun _ => ⟨(hy 10 (by decide)).2.2.1, fun _ => ⟨(hy 10 (by decide)).2.2.2, fun _ => ?_⟩⟩⟩⟩
    refine ⟨(hy 11 (by decide)).1, fun _ => ⟨(hy 11 (by decide)).2.1, fun _ => ⟨(hy 11 (by decide)).2.2.1, fun _ => ⟨(hy 11 (by decide)).2.2.2, fun _ => ?_⟩⟩⟩⟩
    refine ⟨(hy 12 (by decide)).1, fun _ => ⟨(hy 12 (by decide)).2.1, fun _ => ⟨(hy 12 (by decide)).2.2.1, fun _ => ⟨(hy 12 (by decide)).2.2.2, fun _ => ?_⟩⟩⟩⟩
    refine ⟨(hy 13 (by decide)).1, fun _ => ⟨(hy 13 (by decide)).2.1, fun _ => ⟨(hy 13 (by decide)).2.2.1, fun _ => ⟨(hy 13 (by decide)).2.2.2, fun _ => ?_⟩⟩⟩⟩
    refine ⟨(hy 14 (by decide)).1, fun _ => ⟨(hy 14 (by decide)).2.1, fun _ => ⟨(hy 14 (by decide)).2.2.1, fun _ => ⟨(hy 14 (by decide)).2.2.2, fun _ => ?_⟩⟩⟩⟩
    refine ⟨(hy 15 (by decide)).1, fun _ => ⟨(hy 15 (by decide)).2.1, fun _ => ⟨(hy 15 (by decide)).2.2.1, fun _ => ⟨(hy 15 (by decide)).2.2.2, fun _ => ?_⟩⟩⟩⟩
    intro b2
    obtain ⟨q1, w7⟩ := words7 (Int.toNat (x0 - 1)) (by omega)
    rw [show Int.toNat (x0 - 1) + 1 = x0.toNat by omega] at q1 w7
    have q3 : strD (catF (catF (rowS (Lib.decDigits x2.toNat)) (rowLF [1, 47])) (rowS (Lib.decDigits x3.toNat))) = Lib.decDigits x2.toNat ++ [47] ++ Lib.decDigits x3.toNat := by
      rw [strD_catF _ _ (by rw [catF0, e2]; show 0 ≤ ((Lib.decDigits x2.toNat).length : Int) + 1; omega) (by rw [e3]; omega), strD_catF _ _ (by rw [e2]; omega) (by decide), strD_rowS, strD_rowS]
      rfl
    rw [q1, strD_rowS, q3, strD_bytF]
    have jm := join_meets b2 [wordL x0.toNat, Lib.decDigits x1.toNat, Lib.decDigits x2.toNat ++ [47] ++ Lib.decDigits x3.toNat, hexP A] [32] 4 rfl (by decide) (by
      rw [join4, hexP_eq A gA]
      simp only [List.length_append, List.length_singleton, hexL_len]
      omega) (by decide)
    refine ⟨_, jm, ?_⟩
    rintro _ _ ⟨rfl, rfl⟩
    refine ⟨rowS _, strV_row _, rfl, ?_⟩
    show _ = _
    rw [strD_rowS, join4, hexP_eq A gA]
    unfold lineL strV
    simp only [List.append_assoc, Bool.not_false]
end Go.RX.Lp

namespace Go.RX.Lq
open Go Go.RX Go.Proofs Go.RX.Ln Go.RX.Lp Go.RX.Lf Go.RowKit
variable {w0 : World} {n0 : Nat}

/-! ### parts, as a slice -/
theorem splitL_len (c : UInt8) : ∀ l : List UInt8, (splitL c l).length ≤ l.length + 1
  | [] => by simp [splitL]
  | b :: r => by
    have := splitL_len c r
    simp only [splitL]
    split
    · simp; omega
    · split
      · simp
      · rename_i x xs hx
        rw [hx] at this
        simp at this ⊢
        omega
theorem splitL_part (c : UInt8) : ∀ (l x : List UInt8), x ∈ splitL c l → x.length ≤ l.length
  | [], x, h => by simp [splitL] at h; simp [h]
  | b :: r, x, h => by
    have ih := splitL_part c r
    simp only [splitL] at h
    split at h
    · rcases List.mem_cons.1 h with rfl | h
      · simp
      · have := ih x h
        simp
        omega
    · split at h
      · rw [List.mem_singleton] at h
        simp [h]
      · rename_i y ys hy
        rw [hy] at ih
        rcases List.mem_cons.1 h with rfl | h
        · have := ih y (by simp)
          simp
          omega
        · have := ih x (List.mem_cons_of_mem _ h)
          simp
          omega
theorem fm1 (f : Nat → Value) (l : List Nat) : l.flatMap (fun i => [f i]) = l.map f := by
  induction l with
  | nil => rfl
  | cons a l ih => rw [List.flatMap_cons, ih]; rfl
/-- Strings, as rows of numbers. -/
def tabOf (xs : List (List UInt8)) : Nat → Int := fun k => rowS (xs.getD (split2 k).1 []) (split2 k).2
theorem tab_at (xs : List (List UInt8)) (j : Nat) : at2F (tabOf xs) j = rowS (xs.getD j []) := by
  funext k
  simp only [at2F, tabOf, split2_pair]
theorem tab_cells (xs : List (List UInt8)) : tabL xs.length [colV 1 (fun j => .string ⟨(strD (at2F (tabOf xs) j)).toArray⟩)] = xs.map strV := by
  apply List.ext_getElem?
  intro i
  have : tabL xs.length [colV 1 (fun j => .string ⟨(strD (at2F (tabOf xs) j)).toArray⟩)] = (List.range xs.length).map fun i => strV (xs.getD i []) := by
    unfold tabL
    simp only [List.flatMap_cons, List.flatMap_nil, List.append_nil, colV, tab_at, strD_rowS]
    rw [← fm1]
    simp [strV]
  rw [this]
  rw [List.getElem?_map, List.getElem?_map]
  by_cases hi : i < xs.length
  · rw [List.getElem?_range hi, List.getElem?_eq_getElem hi]
    simp [hi]
  · rw [List.getElem?_eq_none (by simpa using hi), List.getElem?_eq_none (by simpa using hi)]
    rfl
theorem rowSli {a : List HP} (i : Nat) {b t s n : Nat} {cs : List Value} (hi : a[i]? = some (rowHP b true cs)) (hl : cs.length = n * s) (hn : n ≤ maxLen) : Ent a (a.set i (sliHP true t s (.slice (some ⟨b, 0, none⟩) n n) n cs)) :=
  Ent.put i _ _ hi (fun h => h) fun w S ⟨h1, ty, fz, h2, h3⟩ => by
    refine ⟨S, fun _ h => h, ?_, ?_⟩
    · rw [h3 rfl] at h2
      refine ⟨hl, Or.inr ⟨b, 0, n, cs.toArray, rfl, ⟨ty, h2⟩, Nat.le_refl _, hn, fun _ => by simp [hl], ?_⟩⟩
      simp [← hl]
    · intro k
      rw [h1]
      simp [Value.ownBlock, eq_comm]
theorem split_parts (hL : Laid0 w0 n0) (s : List UInt8) (c : UInt8) (hs : s.length < 4294967281) : Meets Tryz.prog 52 [strV s, strV [c]] [keptHP n0 w0]
    fun x hs => ∃ b : Nat, x = .slice (some ⟨b, 0, none⟩) (splitL c s).length (splitL c s).length ∧ hs = [keptHP n0 w0, rowHP b true ((splitL c s).map strV)] := by
  refine (split_meets hL s [c] hs (by simp)).post ?_
  rintro v hs' ⟨b, xs, e1, rfl, rfl⟩
  have e2 := splitB_L c _ s rfl
  rw [e1] at e2
  have e3 : xs = splitL c s := by
    have inj : ∀ a b : List UInt8, (⟨a.toArray⟩ : ByteArray) = ⟨b.toArray⟩ → a = b := by
      intro a b h
      simpa using h
    exact (List.map_inj_right inj).1 e2
  have e4 := Lib.splitB_all ⟨#[c]⟩ (Nat.le_refl _) 0 _ ⟨s.toArray⟩ rfl
  rw [e1, List.length_map, e3] at e4
  have e5 : Lib.countB ⟨s.toArray⟩ ⟨[c].toArray⟩ + 1 = (splitL c s).length := e4.symm
  rw [e5, e3]
  exact ⟨_, Ent.refl _, b, rfl, rfl⟩
theorem split_sli (hL : Laid0 w0 n0) (s : List UInt8) (c : UInt8) (hs : s.length ≤ 1000000) : Meets Tryz.prog 52 [strV s, strV [c]] [keptHP n0 w0]
    fun x hs => ∃ b : Nat, x = .slice (some ⟨b, 0, none⟩) (splitL c s).length (splitL c s).length ∧ hs = [keptHP n0 w0, sliHP true 9 1 (.slice (some ⟨b, 0, none⟩) (splitL c s).length (splitL c s).length) (splitL c s).length ((splitL c s).map strV)] := by
  refine (split_parts hL s c (by omega)).post ?_
  rintro v hs' ⟨b, rfl, rfl⟩
  have := splitL_len c s
  exact ⟨_, rowSli 1 rfl (by simp) (by unfold maxLen; omega), b, rfl, rfl⟩

/-! ### the kinds' words -/
def wordsB : List UInt8 := [101, 118, 101, 110, 116, 32, 98, 121, 116, 101, 115, 32, 109, 105, 115, 115, 105, 110, 103, 32, 117, 110, 108, 105, 107, 101, 32, 109, 111, 114, 101, 32, 111, 114, 100, 101, 114, 32, 111, 112, 101, 110]
def words7L : List (List UInt8) := [[101, 118, 101, 110, 116], [98, 121, 116, 101, 115], [109, 105, 115, 115, 105, 110, 103], [117, 110, 108, 105, 107, 101], [109, 111, 114, 101], [111, 114, 100, 101, 114], [111, 112, 101, 110]]
theorem words_split : splitL 32 wordsB = words7L := by decide +kernel
theorem words_meets (hL : Laid0 w0 n0) : Meets Tryz.prog 52 [strV wordsB, strV [32]] [keptHP n0 w0] fun x hs => ∃ b : Nat, x = .slice (some ⟨b, 0, none⟩) 7 7 ∧ hs = [keptHP n0 w0, rowHP b true (words7L.map strV)] := by
  have := split_parts hL wordsB 32 (by decide)
  rw [words_split] at this
  exact this
def kindOf (l : List UInt8) : Nat := if l = wordL 1 then 1 else if l = wordL 2 then 2 else if l = wordL 3 then 3 else if l = wordL 4 then 4 else if l = wordL 5 then 5 else if l = wordL 6 then 6 else if l = wordL 7 then 7 else 0
theorem kindOf_le (l : List UInt8) : kindOf l ≤ 7 := by
  unfold kindOf
  repeat' split
  all_goals omega
theorem kindOf_word (l : List UInt8) (h : 0 < kindOf l) : l = wordL (kindOf l) := by
  unfold kindOf at h ⊢
  repeat' split at h
  all_goals first
    | (exact absurd h (by decide))
    | (repeat' split
       all_goals first
         | assumption
         | contradiction)
theorem kindOf_at : ∀ k : Nat, 1 ≤ k → k ≤ 7 → kindOf (wordL k) = k := by
  intro k h1 h7
  have hk : k = 1 ∨ k = 2 ∨ k = 3 ∨ k = 4 ∨ k = 5 ∨ k = 6 ∨ k = 7 := by omega
  rcases hk with rfl | rfl | rfl | rfl | rfl | rfl | rfl <;> decide +kernel
theorem index_meets (b : Nat) (l : List UInt8) : Meets Tryz.prog 55 [.slice (some ⟨b, 0, none⟩) 7 7, strV l] [rowHP b true (words7L.map strV)] fun v hs => v = .int .i64 ((kindOf l : Int) - 1) ∧ hs = [rowHP b true (words7L.map strV)] := by
  have e0 : strV l = (SV.strE (.avar 0)).val { av := [rowS l], bv := [b] } := strV_row l
  rw [e0]
  refine Meets.of_runE (C := cx) (cnt := { b := 1, a := 1 }) (ρ := { av := [rowS l], bv := [b] }) okT okFT okM Tryz.func55 (by constructor <;> rfl) (Post := fun v hs => v = .int .i64 ((kindOf l : Int) - 1) ∧ hs = [rowHP b true (words7L.map strV)])
    (args := [.sl 0 (.lit 0) 1 (.lit 7) (.lit 7), .strE (.avar 0)]) (hp := [.row 0 true wordsS]) run_index (vc_index Tryz.prog (fun v hs => v = .int .i64 ((kindOf l : Int) - 1) ∧ hs = [rowHP b true (words7L.map strV)]) (rowS l) b (fun _ => LC.none)) ?_
  unfold st_index
  rw [strD_rowS]
  have w1 : strD (rowLF [5, 101, 118, 101, 110, 116]) = wordL 1 := by decide +kernel
  have w2 : strD (rowLF [5, 98, 121, 116, 101, 115]) = wordL 2 := by decide +kernel
  have w3 : strD (rowLF [7, 109, 105, 115, 115, 105, 110, 103]) = wordL 3 := by decide +kernel
  have w4 : strD (rowLF [6, 117, 110, 108, 105, 107, 101]) = wordL 4 := by decide +kernel
  have w5 : strD (rowLF [4, 109, 111, 114, 101]) = wordL 5 := by decide +kernel
  have w6 : strD (rowLF [5, 111, 114, 100, 101, 114]) = wordL 6 := by decide +kernel
  have w7 : strD (rowLF [4, 111, 112, 101, 110]) = wordL 7 := by decide +kernel
  rw [w1, w2, w3, w4, w5, w6, w7]
  unfold kindOf
  refine ⟨fun h => ⟨by rw [if_pos h]; rfl, rfl⟩, fun h1 => ⟨fun h => ⟨by rw [if_neg h1, if_pos h]; rfl, rfl⟩, fun h2 => ⟨fun h => ⟨by rw [if_neg h1, if_neg h2, if_pos h]; rfl, rfl⟩, fun h3 => ⟨fun h => ⟨by rw [if_neg h1, if_neg h2, if_neg h3, if_pos h]; rfl, rfl⟩, fun h4 =>
    ⟨fun h => ⟨by rw [if_neg h1, if_neg h2, if_neg h3, if_neg h4, if_pos h]; rfl, rfl⟩, fun h5 => ⟨fun h => ⟨by rw [if_neg h1, if_neg h2, if_neg h3, if_neg h4, if_neg h5, if_pos h]; rfl, rfl⟩, fun h6 => ⟨fun h => ⟨by rw [if_neg h1, if_neg h2, if_neg h3, if_neg h4, if_neg h5, if_neg h6, if_pos h]; rfl, rfl⟩,
      fun h7 => ⟨by rw [if_neg h1, if_neg h2, if_neg h3, if_neg h4, if_neg h5, if_neg h6, if_neg h7]; rfl, rfl⟩⟩⟩⟩⟩⟩⟩⟩

/-! ### the reader -/
def findE (k t a d : Int) (A : Nat → Int) : Value := .tuple #[.agg (.int .u8 k :: .int .i64 t :: .int .u8 a :: .int .u8 d :: List.append (segCells .u8 16 A) []).toArray, .int .i64 0]
def noE : Value := .tuple #[.agg (.int .u8 0 :: .int .i64 0 :: .int .u8 0 :: .int .u8 0 :: List.append (segCells .u8 16 (fun _ => 0)) []).toArray, .int .i64 2]
def QR (l : List UInt8) (v : Value) : Prop := (∃ (k t a d : Nat) (A : Nat → Int), ValidLine l k t a d A ∧ v = findE k t a d A) ∨ (v = noE ∧ ∀ (k t a d : Nat) (A : Nat → Int), ¬ ValidLine l k t a d A)
theorem nib : ∀ p q : Fin 16, IntKind.wrap .u8 (iop .bor .i64 (iop .shl .i64 (p.val : Int) 4) (q.val : Int)) = 16 * (p.val : Int) + q.val := by decide +kernel
theorem nib_at (p q : Int) (hp : 0 ≤ p ∧ p < 16) (hq : 0 ≤ q ∧ q < 16) : IntKind.wrap .u8 (iop .bor .i64 (iop .shl .i64 p 4) q) = 16 * p + q := by
  have := nib ⟨p.toNat, by omega⟩ ⟨q.toNat, by omega⟩
  simp only at this
  rw [show ((p.toNat : Nat) : Int) = p by omega, show ((q.toNat : Nat) : Int) = q by omega] at this
  exact this
theorem hexes_meets (x : List UInt8) (i : Nat) (hi : i < x.length) : Meets Tryz.prog 58 [.string ⟨#[48, 49, 50, 51, 52, 53, 54, 55, 56, 57, 97, 98, 99, 100, 101, 102]⟩, .int .u8 (sbyF (rowS x) i)] [] fun v hs => v = .int .i64 (hx (x.getD i 0)) ∧ hs = [] := by
  rw [sby_row x i hi]
  have := indexByte_meets hexes ((x[i]'hi).toNat : Int)
  rw [Int.toNat_natCast] at this
  have e : (x[i]'hi).toNat.toUInt8 = x.getD i 0 := by
    rw [List.getD_eq_getElem?_getD, List.getElem?_eq_getElem hi]
    simp
  rw [e] at this
  exact this
theorem pread_meets (hL : Laid0 w0 n0) (l : List UInt8) (hl : l.length ≤ 1000000) : Meets Tryz.prog 24 [strV l] [keptHP n0 w0] fun v hs => QR l v ∧ hs = [keptHP n0 w0] := by
  have e0 : strV l = (SV.strE (.avar 0)).val { av := [rowS l], pv := [keptHP n0 w0] } := strV_row l
  rw [e0]
  refine Meets.of_look (C := cx) (cnt := { a := 1, p := 1 }) (ρ := { av := [rowS l], pv := [keptHP n0 w0] }) okT okFT okM Tryz.func24 (by constructor <;> rfl) rfl rfl
    (QR l) (args := [.strE (.avar 0)]) run_pread (vc_pread Tryz.prog (fun v _ => QR l v) (rowS l) (keptHP n0 w0) (fun _ => LC.none)) ?_
  unfold st_pread
  rw [strD_rowS]
  intro _ _
  refine ⟨_, split_sli hL l 32 hl, ?_⟩
  have hlen := splitL_len 32 l
  have hsum : ∀ x ∈ splitL 32 l, x.length ≤ 1000000 := fun x hx => Nat.le_trans (splitL_part 32 l x hx) hl
  generalize hW : splitL 32 l = W at hlen hsum
  rintro _ _ ⟨b, rfl, rfl⟩
  refine ⟨⟨.slice (some ⟨b, 0, none⟩) W.length W.length, rfl⟩, W.length, tabOf W, rfl, by rw [Int.toNat_natCast, tab_cells], ?_⟩
  simp only [tab_at, rowS0, strD_rowS]
  refine ⟨by omega, fun _ => ⟨by omega, fun _ => ⟨by omega, fun _ => ⟨by omega, fun _ => ⟨fun h => ?_, fun h => ?_⟩⟩⟩⟩⟩
  · refine Or.inr ⟨rfl, fun k t a d A hv => ?_⟩
    have := split_valid hv
    rw [hW] at this
    subst this
    have := hexL_len A
    simp [this] at h
  · obtain ⟨w, t, m, x, rfl, hx32⟩ : ∃ w t m x, W = [w, t, m, x] ∧ x.length = 32 := by
      match W, h with
      | [w, t, m, x], h => exact ⟨w, t, m, x, rfl, by simp at h; omega⟩
      | [], h => simp at h
      | [_], h => simp at h
      | [_, _], h => simp at h
      | [_, _, _], h => simp at h
      | _ :: _ :: _ :: _ :: _ :: _, h => simp at h; omega
    have lw := hsum w (by simp)
    have lt := hsum t (by simp)
    have lm := hsum m (by simp)
    clear hsum
    simp only [List.getD_cons_zero, List.getD_cons_succ, List.length_cons, List.length_nil]
    refine ⟨by omega, fun _ => ⟨_, words_meets hL, ?_⟩⟩
    rintro _ _ ⟨b2, rfl, rfl⟩
    refine ⟨b2, rfl, rfl, _, index_meets b2 w, ?_⟩
    rintro _ _ ⟨rfl, rfl⟩
    have hk7 := kindOf_le w
    refine ⟨(kindOf w : Int) - 1, rfl, rfl, ?_⟩
    rw [show (kindOf w : Int) - 1 + 1 = kindOf w by omega, IntWalk.u8_in (kindOf w : Int) (by omega)]
    refine ⟨by omega, fun _ => ⟨by omega, fun _ => ⟨by omega, fun _ => ⟨_, cut_meets hL m [47] (by omega), ?_⟩⟩⟩⟩
    rintro _ _ ⟨rfl, rfl⟩
    have hcut := cut_back 47 m
    obtain ⟨a, ha⟩ : ∃ a, a = (Lib.cut m [47]).1 := ⟨_, rfl⟩
    obtain ⟨d, hd⟩ : ∃ d, d = (Lib.cut m [47]).2.1 := ⟨_, rfl⟩
    have la : a.length ≤ 1000000 := by
      rcases hcut with ⟨_, h2, _⟩ | ⟨h1, _⟩
      · rw [← ha] at h2
        have := congrArg List.length h2
        simp at this
        omega
      · rw [h1] at ha
        rw [ha]
        exact lm
    have ld : d.length ≤ 1000000 := by
      rcases hcut with ⟨_, h2, _⟩ | ⟨h1, _⟩
      · rw [← hd] at h2
        have := congrArg List.length h2
        simp at this
        omega
      · rw [h1] at hd
        rw [hd]
        simp
    rw [← ha, ← hd] at hcut ⊢
    refine ⟨rowS a, rowS d, (Lib.cut m [47]).2.2, by rw [strV_row, strV_row], rfl, by omega, fun _ => ?_⟩
    rw [strD_rowS, strD_rowS]
    refine ⟨_, num_meets hL t 31 (Or.inr rfl) (by omega), ?_⟩
    rintro _ _ ⟨rfl, rfl⟩
    refine ⟨(numP 31 t).1, (numP 31 t).2, rfl, rfl, _, num_meets hL a 8 (Or.inl rfl) (by omega), ?_⟩
    rintro _ _ ⟨rfl, rfl⟩
    refine ⟨(numP 8 a).1, (numP 8 a).2, rfl, rfl, _, num_meets hL d 8 (Or.inl rfl) (by omega), ?_⟩
    rintro _ _ ⟨rfl, rfl⟩
    have na := numP_le 8 a
    have nd := numP_le 8 d
    have nt := numP_le 31 t
    refine ⟨(numP 8 d).1, (numP 8 d).2, rfl, rfl, ?_⟩
    rw [IntWalk.u8_in ((numP 8 a).1 : Int) (by omega), IntWalk.u8_in ((numP 8 d).1 : Int) (by omega)]
    generalize hok : (((decide (0 < (kindOf w : Int)) && (numP 31 t).2) && (numP 8 a).2) && (numP 8 d).2) = ok0
    refine ⟨fun e => 0 ≤ e.i.getD 0 0 ∧ e.i.getD 0 0 ≤ 16 ∧ ((e.bo.getD 0 false) = true ↔ ok0 = true ∧ ∀ j : Nat, (j : Int) < e.i.getD 0 0 → 0 ≤ hx (x.getD (2 * j) 0) ∧ 0 ≤ hx (x.getD (2 * j + 1) 0)) ∧
        ((e.bo.getD 0 false) = true → ∀ j : Nat, (j : Int) < e.i.getD 0 0 → (e.a.getD 0 fun _ => 0) j = 16 * hx (x.getD (2 * j) 0) + hx (x.getD (2 * j + 1) 0)), fun e => (16 - e.i.getD 0 0).toNat,
      ⟨0, fun _ => 0, ok0, rfl, rfl, fun _ _ => rfl, by simp, by simp, ?_, ?_⟩, ?_⟩
    · simp only [List.getD_cons_zero]
      exact ⟨fun h => ⟨h, fun j hj => absurd hj (by omega)⟩, fun h => h.1⟩
    · simp only [List.getD_cons_zero]
      exact fun _ j hj => absurd hj (by omega)
    rintro i B q ⟨hi0, hi1, hq, hB⟩
    simp only [List.getD_cons_zero] at hi0 hi1 hq hB
    refine ⟨fun hi => ?_, fun hi => ?_⟩
    · obtain ⟨n, rfl⟩ : ∃ n : Nat, i = n := ⟨i.toNat, by omega⟩
      rw [hx32]
      refine ⟨by omega, fun _ => ⟨by omega, fun _ => ⟨by omega, fun _ => ⟨by omega, fun _ => ⟨by omega, fun _ => ⟨by omega, fun _ => ⟨by omega, fun _ => ⟨by omega, fun _ => ⟨by omega, fun _ => ?_⟩⟩⟩⟩⟩⟩⟩⟩⟩
      rw [show (2 * (n : Int)).toNat = 2 * n by omega, show (2 * (n : Int) + 1).toNat = 2 * n + 1 by omega]
      refine ⟨_, hexes_meets x (2 * n) (by omega), ?_⟩
      rintro _ _ ⟨rfl, rfl⟩
      refine ⟨_, rfl, rfl, _, hexes_meets x (2 * n + 1) (by omega), ?_⟩
      rintro _ _ ⟨rfl, rfl⟩
      refine ⟨_, rfl, rfl, by omega, fun _ => ⟨by omega, fun _ => ⟨by omega, fun _ => ⟨_, _, _, rfl, rfl, fun _ _ => rfl, ⟨?_, ?_, ?_, ?_⟩, ?_⟩⟩⟩⟩
      · simp only [List.getD_cons_zero]; omega
      · simp only [List.getD_cons_zero]; omega
      · simp only [List.getD_cons_zero, Bool.and_eq_true, decide_eq_true_eq, hq]
        constructor
        · rintro ⟨⟨⟨h1, h2⟩, h3⟩, h4⟩
          refine ⟨h1, fun j hj => ?_⟩
          by_cases hjn : j = n
          · subst hjn
            exact ⟨h3, h4⟩
          · exact h2 j (by omega)
        · rintro ⟨h1, h2⟩
          exact ⟨⟨⟨h1, fun j hj => h2 j (by omega)⟩, (h2 n (by omega)).1⟩, (h2 n (by omega)).2⟩
      · simp only [List.getD_cons_zero, Bool.and_eq_true, decide_eq_true_eq]
        rintro ⟨⟨h1, h3⟩, h4⟩ j hj
        rw [Int.toNat_natCast]
        simp only [updF]
        by_cases hjn : j = n
        · subst hjn
          rw [if_pos rfl, nib_at _ _ ⟨h3, (hx_at _).2.1⟩ ⟨h4, (hx_at _).2.1⟩]
        · rw [if_neg hjn]
          exact hB h1 j (by omega)
      · simp only [List.getD_cons_zero]; omega
    · obtain rfl : i = 16 := by omega
      refine ⟨fun hnq => ?_, fun hqq => ?_⟩
      · refine Or.inr ⟨rfl, fun k' t' a' d' A hv => ?_⟩
        have hs := split_valid hv
        rw [hW] at hs
        simp only [List.cons.injEq, and_true] at hs
        obtain ⟨rfl, rfl, rfl, rfl⟩ := hs
        rw [cut_at 47 _ _ (dec_not a' 47 (by decide))] at ha hd
        simp only at ha hd
        subst ha hd
        refine hnq (hq.2 ⟨?_, fun j hj => ?_⟩)
        · rw [← hok, kindOf_at k' hv.k1 hv.k7, numP_dec 31 t' (by decide) (by have := hv.ht; omega), numP_dec 8 a' (by decide) (by have := hv.ha; omega), numP_dec 8 d' (by decide) (by have := hv.hd; omega)]
          have := hv.k1
          simp
          omega
        · have hb := hv.hA j (by omega)
          obtain ⟨h1, h2⟩ := hexL_hx A hv.hA j (by omega)
          rw [h1, h2]
          omega
      · have hqt : q = true := by simpa using hqq
        obtain ⟨hk, hh⟩ := hq.1 hqt
        rw [← hok] at hk
        simp only [Bool.and_eq_true, decide_eq_true_eq] at hk
        obtain ⟨⟨⟨k0, q1⟩, q2⟩, q3⟩ := hk
        obtain ⟨t1, t2⟩ := numP_true 31 t q1
        obtain ⟨a1, a2⟩ := numP_true 8 a q2
        obtain ⟨d1, d2⟩ := numP_true 8 d q3
        have hm : m = a ++ 47 :: d := by
          rcases hcut with ⟨_, h2, _⟩ | ⟨h1, _⟩
          · exact h2
          · rw [h1] at hd
            simp only at hd
            rw [hd] at q3
            exact absurd q3 (by decide)
        have hBb : ∀ j, j < 16 → 0 ≤ B j ∧ B j ≤ 255 := by
          intro j hj
          have h1 := hx_at (x.getD (2 * j) 0)
          have h2 := hx_at (x.getD (2 * j + 1) 0)
          have h3 := hh j (by omega)
          rw [hB hqt j (by omega)]
          omega
        refine Or.inl ⟨kindOf w, (numP 31 t).1, (numP 8 a).1, (numP 8 d).1, B, valid_split (m := m) (x := x) ?_ (by omega) hk7 (by omega) (by omega) (by omega) hBb ?_ ?_, rfl⟩
        · rw [hW, ← kindOf_word w (by omega), ← t2]
        · rw [← a2, ← d2]
          exact hm
        · exact hexL_back x B hx32 fun j hj => ⟨(hh j (by omega)).1, (hh j (by omega)).2, hB hqt j (by omega)⟩
end Go.RX.Lq
