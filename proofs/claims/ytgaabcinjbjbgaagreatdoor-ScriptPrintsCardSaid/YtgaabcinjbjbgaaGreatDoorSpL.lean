/- Printing of moves: bytes and numbers, of both sides. -/
import Derived.Test.YtgaabcinjbjbgaaGreatDoorSpD
import Derived.Test.YtgaabcinjbjbgaaGreatDoorScOk
import Derived.Test.YtgaabcinjbjbgaaGreatDoorLyL
import Derived.Test.YtgaabcinjbjbgaaGreatDoorLyA
namespace Go.RX.Sp
open Go Go.RX Go.Proofs Go.RX.Ln Go.RX.Lp Go.RX.Lf Go.RowKit
variable {w0 : World} {n0 : Nat}

theorem band15 : ∀ a : Fin 256, iop .band .u8 (a.val : Int) 15 = ((a.val % 16 : Nat) : Int) := by decide +kernel
theorem band_at (a : Int) (h : 0 ≤ a ∧ a ≤ 255) : iop .band .u8 a 15 = a % 16 := by
  have := band15 ⟨a.toNat, by omega⟩
  simp only at this
  rw [show ((a.toNat : Nat) : Int) = a by omega] at this
  rw [this]
  omega
theorem shr_at (a : Int) (_ : 0 ≤ a ∧ a ≤ 255) : iop .shr .u8 a 4 = a / 16 := by
  show a.fdiv 16 = a / 16
  rw [Int.fdiv_eq_ediv_of_nonneg _ (by decide)]
theorem quo16 (x : Int) (h : 0 ≤ x ∧ x ≤ 255) : IntKind.wrap .u8 (iop .quo .u8 x 16) = x / 16 := by
  simp only [iop]
  rw [Int.tdiv_eq_ediv_of_nonneg h.1, IntWalk.u8_in _ (by omega)]
theorem rem16 (x : Int) (h : 0 ≤ x ∧ x ≤ 255) : iop .rem .u8 x 16 = x % 16 := by
  simp only [iop]
  rw [Int.tmod_eq_emod_of_nonneg h.1]
/-- A byte's sign. -/
def nibF (l : List UInt8) (j : Nat) : Int := rowLF halfs (if j % 2 = 0 then (l.getD (j / 2) 0).toNat / 16 else (l.getD (j / 2) 0).toNat % 16)
/-- Bytes' signs. -/
def hexS (l : List UInt8) : List UInt8 := if l = [] then [45] else (List.range (2 * l.length)).map fun j => UInt8.ofNat (nibF l j).toNat
def bytesF (l : List UInt8) : Nat → Int := fun j => ((l.getD j 0).toNat : Int)
def cellsB (l : List UInt8) : List Value := tabL l.length [colI .u8 1 (bytesF l)]
theorem bytesF_range (l : List UInt8) (j : Nat) : 0 ≤ bytesF l j ∧ bytesF l j ≤ 255 := by
  have := (l.getD j 0).toNat_lt
  unfold bytesF
  omega
theorem half_r : ∀ v : Nat, v < 16 → 0 ≤ rowLF halfs v ∧ rowLF halfs v ≤ 255 := by decide
theorem nibF_range (l : List UInt8) (j : Nat) : 0 ≤ nibF l j ∧ nibF l j ≤ 255 := by
  have := (l.getD (j / 2) 0).toNat_lt
  unfold nibF
  split
  · exact half_r _ (by omega)
  · exact half_r _ (by omega)
theorem seg_bytes (k : Nat) (A : Nat → Int) (h : ∀ j, j < k → 0 ≤ A j ∧ A j ≤ 255) : segCells .u8 k A = Lib.byteCells ((List.range k).map fun j => UInt8.ofNat (A j).toNat) := by
  unfold segCells Lib.byteCells
  rw [List.map_map]
  refine List.map_congr_left fun j hj => ?_
  have := h j (List.mem_range.1 hj)
  simp only [Function.comp]
  congr 1
  rw [UInt8.toNat_ofNat']
  omega
theorem bstring_meets (b k : Nat) (A : Nat → Int) (hk : 0 < k) (h : ∀ j, j < k → 0 ≤ A j ∧ A j ≤ 255) : Meets Tryz.prog 47 [.pointer (some ⟨b, 0, none⟩)] [bldHP b 93 5 (segCells .u8 k A)] fun x hs => x = strV ((List.range k).map fun j => UInt8.ofNat (A j).toNat) ∧ hs = [] := by
  rw [seg_bytes k A h]
  refine Au.meets_drop rfl fun w S hS => ?_
  exact Sb.string Tryz.lays169 Tryz.Builder_Extra_169 b _ w S hS (by simp; omega)
theorem map_nib (l : List UInt8) (k : Nat) (A : Nat → Int) (hk : k = 2 * l.length) (h : ∀ j, j < k → A j = nibF l j) (hne : l ≠ []) : ((List.range k).map fun j => UInt8.ofNat (A j).toNat) = hexS l := by
  unfold hexS
  rw [if_neg hne, hk]
  refine List.map_congr_left fun j hj => ?_
  rw [h j (by have := List.mem_range.1 hj; omega)]
/-- hex: the program's bytes' signs. -/
theorem hex_meets (v : V1) (l : List UInt8) (hl : l.length ≤ 10000000) : Meets Tryz.prog 37 [v.v] [sliHP false 5 1 v.v l.length (cellsB l)] fun x hs => x = strV (hexS l) ∧ hs = [sliHP false 5 1 v.v l.length (cellsB l)] := by
  have hr : Meets Tryz.prog 37 [v.v] [sliHP false 5 1 v.v l.length (cellsB l)] fun x _ => x = strV (hexS l) := by
    have := Meets.of_runE (C := cxH) (cnt := { i := 1, a := 1, v := 1 }) (ρ := { iv := [(l.length : Int)], av := [bytesF l], vv := [v] }) okT okFT okM Tryz.func37 (by constructor <;> rfl) (Post := fun x _ => x = strV (hexS l))
      (args := [.vv 0]) (hp := [.sli false 0 5 1 (.var 0) [⟨.int .u8, 1, .avar 0⟩]]) run_hex (vc_hex Tryz.prog (fun x _ => x = strV (hexS l)) l.length (bytesF l) v (fun _ => LC.none)) ?_ (Sc.pure_ok cxH rfl)
    · exact this
    · unfold st_hex
      refine ⟨by omega, fun _ => ⟨fun h => ?_, fun h b => ?_⟩⟩
      · have : l = [] := List.eq_nil_of_length_eq_zero (by omega)
        show _ = _
        rw [this]
        rfl
      · have hne : l ≠ [] := fun e => h (by rw [e]; rfl)
        refine ⟨fun e => 0 ≤ e.i.getD 0 0 ∧ e.i.getD 0 0 ≤ l.length ∧ e.i.getD 1 0 = 2 * e.i.getD 0 0 ∧ ∀ j : Nat, (j : Int) < 2 * e.i.getD 0 0 → (e.a.getD 0 fun _ => 0) j = nibF l j, fun e => ((l.length : Int) - e.i.getD 0 0).toNat,
          ⟨0, 0, fun _ => 0, rfl, rfl, fun _ _ => rfl, by simp, by simp, rfl, fun j hj => by simp at hj; omega⟩, ?_⟩
        rintro i m B ⟨hi0, hi1, hm, hB⟩
        simp only [List.getD_cons_zero, List.getD_cons_succ] at hi0 hi1 hm hB
        subst hm
        refine ⟨fun hi => ?_, fun hi => ?_⟩
        · have hb := bytesF_range l i.toNat
          rw [shr_at _ hb, band_at _ hb]
          refine ⟨by omega, fun _ => ⟨by omega, fun _ => ⟨by omega, fun _ => ⟨by omega, fun _ => ⟨by omega, fun _ => ⟨by omega, fun _ => ⟨by omega, fun _ => ⟨by omega, fun _ => ⟨by omega, fun _ => ⟨by omega, fun _ => ⟨by omega, fun _ => ?_⟩⟩⟩⟩⟩⟩⟩⟩⟩⟩⟩
          refine ⟨_, _, _, rfl, rfl, fun _ _ => rfl, ⟨?_, ?_, ?_, ?_⟩, ?_⟩
          · simp only [List.getD_cons_zero]; omega
          · simp only [List.getD_cons_zero]; omega
          · simp only [List.getD_cons_zero, List.getD_cons_succ]; omega
          · simp only [List.getD_cons_zero]
            intro j hj
            simp only [updF]
            by_cases h1 : j = (2 * i + 1).toNat
            · rw [if_pos h1]
              unfold nibF
              rw [if_neg (by omega), show j / 2 = i.toNat by omega]
              unfold bytesF
              congr 1
            · rw [if_neg h1]
              by_cases h2 : j = (2 * i).toNat
              · rw [if_pos h2]
                unfold nibF
                rw [if_pos (by omega), show j / 2 = i.toNat by omega]
                unfold bytesF
                congr 1
              · rw [if_neg h2]
                exact hB j (by omega)
          · simp only [List.getD_cons_zero]; omega
        · obtain rfl : i = l.length := by omega
          have h0 : 0 < l.length := by omega
          refine ⟨_, bstring_meets b (2 * (l.length : Int)).toNat B (by omega) (fun j hj => by rw [hB j (by omega)]; exact nibF_range l j), ?_⟩
          rintro _ _ ⟨rfl, rfl⟩
          refine ⟨rowS (hexS l), by rw [map_nib l _ B (by omega) (fun j hj => hB j (by omega)) hne, strV_row], rfl, ?_⟩
          show _ = _
          rw [strD_rowS]
          rfl
  exact hr.look rfl
/-- Hex: the document's. -/
theorem rhex_meets (v : V1) (l : List UInt8) (hl : l.length ≤ 10000000) : Meets Tryz.prog 44 [v.v] [sliHP false 5 1 v.v l.length (cellsB l)] fun x hs => x = strV (hexS l) ∧ hs = [sliHP false 5 1 v.v l.length (cellsB l)] := by
  have hr : Meets Tryz.prog 44 [v.v] [sliHP false 5 1 v.v l.length (cellsB l)] fun x _ => x = strV (hexS l) := by
    have := Meets.of_runE (C := cxR) (cnt := { i := 1, a := 1, v := 1 }) (ρ := { iv := [(l.length : Int)], av := [bytesF l], vv := [v] }) okT okFT okM Tryz.func44 (by constructor <;> rfl) (Post := fun x _ => x = strV (hexS l))
      (args := [.vv 0]) (hp := [.sli false 0 5 1 (.var 0) [⟨.int .u8, 1, .avar 0⟩]]) run_rhex (vc_rhex Tryz.prog (fun x _ => x = strV (hexS l)) l.length (bytesF l) v (fun _ => LC.none)) ?_ (Sc.pure_ok cxR rfl)
    · exact this
    · unfold st_rhex
      refine ⟨by omega, fun _ => ⟨fun h => ?_, fun h => ?_⟩⟩
      · have : l = [] := List.eq_nil_of_length_eq_zero (by omega)
        show _ = _
        rw [this]
        rfl
      · have hne : l ≠ [] := fun e => h (by rw [e]; rfl)
        refine ⟨fun e => 0 ≤ e.i.getD 0 0 ∧ e.i.getD 0 0 ≤ l.length ∧ e.i.getD 1 0 = 2 * e.i.getD 0 0 ∧ ∀ j : Nat, (j : Int) < 2 * e.i.getD 0 0 → (e.a.getD 0 fun _ => 0) j = nibF l j, fun e => ((l.length : Int) - e.i.getD 0 0).toNat,
          ⟨⟨.slice none 0 0, rfl⟩, 0, 0, fun _ => 0, rfl, rfl, rfl, rfl, fun _ _ => rfl, by simp, by simp, rfl, fun j hj => by simp at hj; omega⟩, ?_⟩
        rintro v2 i m B ⟨hi0, hi1, hm, hB⟩
        simp only [List.getD_cons_zero, List.getD_cons_succ] at hi0 hi1 hm hB
        subst hm
        refine ⟨by omega, fun _ => ⟨fun hi => ?_, fun hi => ?_⟩⟩
        · have hb := bytesF_range l i.toNat
          rw [quo16 _ hb, rem16 _ hb]
          refine ⟨by omega, fun _ => ⟨by omega, fun _ => ⟨by omega, fun _ => ⟨by omega, fun _ => ⟨by omega, fun _ => fun _ => ⟨by omega, fun _ => ⟨by omega, fun _ => fun v3 => ⟨by omega, fun _ => ⟨by omega, fun _ => ?_⟩⟩⟩⟩⟩⟩⟩⟩⟩
          refine ⟨_, _, _, _, rfl, rfl, rfl, rfl, fun _ _ => rfl, ⟨?_, ?_, ?_, ?_⟩, ?_⟩
          · simp only [List.getD_cons_zero]; omega
          · simp only [List.getD_cons_zero]; omega
          · simp only [List.getD_cons_zero, List.getD_cons_succ]; omega
          · simp only [List.getD_cons_zero]
            intro j hj
            simp only [splF, updF]
            by_cases h1 : j = (2 * i).toNat + 1
            · rw [if_pos (by omega), if_pos (by omega)]
              unfold nibF
              rw [if_neg (by omega), show j / 2 = i.toNat by omega]
              unfold bytesF
              congr 1
            · by_cases h2 : j = (2 * i).toNat
              · rw [if_pos (by omega), if_neg (by omega), if_pos (by omega)]
                unfold nibF
                rw [if_pos (by omega), show j / 2 = i.toNat by omega]
                unfold bytesF
                congr 1
              · rw [if_neg (by omega)]
                exact hB j (by omega)
          · simp only [List.getD_cons_zero]; omega
        · obtain rfl : i = l.length := by omega
          show _ = _
          rw [strD_bytF, map_nib l _ B (by omega) (fun j hj => hB j (by omega)) hne]
          rfl
  exact hr.look rfl

/-! ### the document's numbers -/
theorem rdigits_meets : ∀ (u : Nat) (n : Int), 0 ≤ n → n ≤ 18446744073709551615 → n.toNat = u → Meets Tryz.prog 43 [.int .u64 n] [] (fun v hs => v = strV (Lib.decDigits u) ∧ hs = []) := by
  intro u
  induction u using Nat.strongRecOn with
  | _ u ih =>
    intro n h0 h1 hu
    refine Meets.of_bare (C := cxR) (cnt := { i := 1 }) (ρ := { iv := [n] }) okT okFT okM Tryz.func43 (by constructor <;> rfl) (fun v => v = strV (Lib.decDigits u)) (args := [.int .u64 (.var 0)]) run_digits (vc_digits Tryz.prog (fun v _ => v = strV (Lib.decDigits u)) n (fun _ => LC.none)) ?_ (Sc.pure_ok cxR rfl)
    unfold st_digits
    have hrem : iop .rem .u64 n 10 = n % 10 := by
      simp only [iop]
      rw [Int.tmod_eq_emod_of_nonneg h0]
    have hquo : IntKind.wrap .u64 (iop .quo .u64 n 10) = n / 10 := by
      simp only [iop]
      rw [Int.tdiv_eq_ediv_of_nonneg h0]
      exact IntWalk.u64_in _ (by omega)
    have hw : IntKind.wrap .u8 (IntKind.wrap .u64 (48 + n % 10)) = 48 + n % 10 := by rw [IntWalk.u64_in _ (by omega), IntWalk.u8_in _ (by omega)]
    rw [hrem, hquo, hw]
    intro _
    refine ⟨fun h => ?_, fun h => ?_⟩
    · show Value.string _ = _
      rw [byt1, Lib.decDigits, dif_pos (by omega)]
      show strV _ = strV _
      congr 3
      omega
    · refine ⟨_, ih (u / 10) (by omega) (n / 10) (by omega) (by omega) (by omega), ?_⟩
      rintro x hs ⟨rfl, rfl⟩
      refine ⟨rowS (Lib.decDigits (u / 10)), strV_row _, rfl, ?_⟩
      have hl := dec_len20 19 (u / 10) (by have : (10 : Nat) ^ (19 + 1) = 100000000000000000000 := by decide
                                           omega)
      rw [rowS0]
      refine ⟨by omega, fun _ => ⟨by omega, fun _ => ?_⟩⟩
      show Value.string _ = _
      rw [strD_catF _ _ (by rw [rowS0]; omega) (by rw [bytF0]; omega), strD_rowS, byt1]
      conv => rhs; rw [Lib.decDigits, dif_neg (by omega)]
      show strV _ = strV _
      congr 4
      omega
theorem whole_meets (n : Int) (h0 : -9223372036854775808 ≤ n) (h1 : n ≤ 9223372036854775807) : Meets Tryz.prog 42 [.int .i64 n] [] (fun v hs => v = strV (Lib.itoa n) ∧ hs = []) := by
  refine Meets.of_bare (C := cxR) (cnt := { i := 1 }) (ρ := { iv := [n] }) okT okFT okM Tryz.func42 (by constructor <;> rfl) (fun v => v = strV (Lib.itoa n)) (args := [.int .i64 (.var 0)]) run_whole (vc_whole Tryz.prog (fun v _ => v = strV (Lib.itoa n)) n (fun _ => LC.none)) ?_ (Sc.pure_ok cxR rfl)
  unfold st_whole
  refine ⟨fun h => ?_, fun h => ?_⟩
  · have hw : IntKind.wrap .u64 (0 - IntKind.wrap .u64 n) = -n := by rw [IntKind.wrap_u64, IntKind.wrap_u64]; omega
    rw [hw]
    refine ⟨_, rdigits_meets n.natAbs (-n) (by omega) (by omega) (by omega), ?_⟩
    rintro x hs ⟨rfl, rfl⟩
    refine ⟨rowS (Lib.decDigits n.natAbs), strV_row _, rfl, ?_⟩
    have hl := dec_len20 19 n.natAbs (by have : (10 : Nat) ^ (19 + 1) = 100000000000000000000 := by decide
                                         omega)
    rw [rowS0]
    refine ⟨by omega, fun _ => ⟨by omega, fun _ => ?_⟩⟩
    show Value.string _ = _
    rw [strD_catF _ _ (by decide) (by rw [rowS0]; omega), strD_rowS]
    unfold Lib.itoa
    rw [if_pos h]
    rfl
  · rw [IntWalk.u64_in n (by omega)]
    refine ⟨_, rdigits_meets n.toNat n (by omega) (by omega) rfl, ?_⟩
    rintro x hs ⟨rfl, rfl⟩
    refine ⟨rowS (Lib.decDigits n.toNat), strV_row _, rfl, ?_⟩
    show Value.string _ = _
    rw [strD_rowS]
    unfold Lib.itoa
    rw [if_neg h]
    rfl
theorem fmtI (hL : Laid0 w0 n0) (n : Int) (h0 : 0 ≤ n) (h1 : n ≤ 18446744073709551615) : Meets Tryz.prog 71 [.int .u64 n, .int .i64 10] [keptHP n0 w0] fun x hs => x = strV (Lib.decDigits n.toNat) ∧ hs = [keptHP n0 w0] := by
  have := fmt_meets hL n.toNat (by omega)
  rw [show ((n.toNat : Nat) : Int) = n by omega] at this
  exact this
end Go.RX.Sp
