/- Printing of moves: a line's law; the program's lines; printed by a program of ours (wip/tools/gen_sp.py). -/
import Derived.Test.YtgaabcinjbjbgaaDoorM32
import Derived.Test.YtgaabcinjbjbgaaDoorSpF

namespace Go.RX.Sp
open Go Go.RX Go.Proofs Go.RX.Ln Go.RX.Lp Go.RX.Lf Go.RowKit
variable {w0 : World} {n0 : Nat}
def devS (a d : Int) : List UInt8 := Lib.decDigits a.toNat ++ [47] ++ Lib.decDigits d.toNat
def lineM (k : Nat) (x0 x1 x2 x3 x4 x5 : Int) (l : List UInt8) : List UInt8 :=
  match k with
  | 1 => if (x2 = 0 ∧ x3 = 0) ∧ x5 = 0 ∧ l.length = 0 then [100, 105, 97, 108] ++ [32] ++ devS x0 x1 ++ [32] ++ Lib.itoa x4 else []
  | 2 => if (x2 = 0 ∧ x3 = 0) ∧ x4 = 0 ∧ x5 = 0 ∧ l.length = 0 then [97, 110, 115, 119, 101, 114] ++ [32] ++ devS x0 x1 else []
  | 3 => if (x2 = 0 ∧ x3 = 0) ∧ x4 = 0 ∧ x5 = 0 ∧ l.length = 0 then [100, 101, 99, 108, 105, 110, 101] ++ [32] ++ devS x0 x1 else []
  | 4 => if (x2 = 0 ∧ x3 = 0) ∧ x4 = 0 ∧ x5 = 0 ∧ l.length = 0 then [104, 97, 110, 103] ++ [32] ++ devS x0 x1 else []
  | 5 => if (x0 = 0 ∧ x1 = 0) ∧ (x2 = 0 ∧ x3 = 0) ∧ x5 = 0 ∧ l.length = 0 then [116, 105, 99, 107] ++ [32] ++ Lib.itoa x4 else []
  | 6 => if (x0 = 0 ∧ x1 = 0) ∧ (x2 = 0 ∧ x3 = 0) ∧ x5 = 0 ∧ l.length = 0 then [100, 101, 108, 105, 118, 101, 114] ++ [32] ++ Lib.itoa x4 else []
  | 7 => if (x0 = 0 ∧ x1 = 0) ∧ (x2 = 0 ∧ x3 = 0) ∧ x5 = 0 ∧ l.length = 0 then [100, 114, 111, 112] ++ [32] ++ Lib.itoa x4 else []
  | 8 => if (x0 = 0 ∧ x1 = 0) ∧ (x2 = 0 ∧ x3 = 0) ∧ x5 = 0 ∧ l.length = 0 then [100, 111, 117, 98, 108, 101] ++ [32] ++ Lib.itoa x4 else []
  | 9 => if (x0 = 0 ∧ x1 = 0) ∧ (x2 = 0 ∧ x3 = 0) ∧ l.length = 0 then [116, 97, 109, 112, 101, 114] ++ [32] ++ Lib.itoa x4 ++ [32] ++ Lib.decDigits x5.toNat else []
  | 10 => if (x2 = 0 ∧ x3 = 0) ∧ x4 = 0 ∧ x5 = 0 then [105, 110, 106, 101, 99, 116] ++ [32] ++ devS x0 x1 ++ [32] ++ hexS l else []
  | 11 => if (x2 = 0 ∧ x3 = 0) ∧ x4 = 0 ∧ x5 = 0 ∧ l.length = 0 then [99, 114, 101, 97, 116, 101] ++ [32] ++ devS x0 x1 else []
  | 12 => if x4 = 0 ∧ x5 = 0 ∧ l.length = 0 then [97, 100, 100] ++ [32] ++ devS x0 x1 ++ [32] ++ devS x2 x3 else []
  | 13 => if x4 = 0 ∧ x5 = 0 ∧ l.length = 0 then [107, 105, 99, 107] ++ [32] ++ devS x0 x1 ++ [32] ++ devS x2 x3 else []
  | 14 => if (x2 = 0 ∧ x3 = 0) ∧ x4 = 0 ∧ x5 = 0 ∧ l.length = 0 then [108, 101, 97, 118, 101] ++ [32] ++ devS x0 x1 else []
  | 15 => if (x2 = 0 ∧ x3 = 0) ∧ x4 = 0 ∧ x5 = 0 then [102, 114, 97, 109, 101] ++ [32] ++ devS x0 x1 ++ [32] ++ hexS l else []
  | _ => []
theorem line1 (x0 x1 x2 x3 x4 x5 : Int) (l : List UInt8) : lineM 1 x0 x1 x2 x3 x4 x5 l = if (x2 = 0 ∧ x3 = 0) ∧ x5 = 0 ∧ l.length = 0 then [100, 105, 97, 108] ++ [32] ++ devS x0 x1 ++ [32] ++ Lib.itoa x4 else [] := rfl
theorem line2 (x0 x1 x2 x3 x4 x5 : Int) (l : List UInt8) : lineM 2 x0 x1 x2 x3 x4 x5 l = if (x2 = 0 ∧ x3 = 0) ∧ x4 = 0 ∧ x5 = 0 ∧ l.length = 0 then [97, 110, 115, 119, 101, 114] ++ [32] ++ devS x0 x1 else [] := rfl
theorem line3 (x0 x1 x2 x3 x4 x5 : Int) (l : List UInt8) : lineM 3 x0 x1 x2 x3 x4 x5 l = if (x2 = 0 ∧ x3 = 0) ∧ x4 = 0 ∧ x5 = 0 ∧ l.length = 0 then [100, 101, 99, 108, 105, 110, 101] ++ [32] ++ devS x0 x1 else [] := rfl
theorem line4 (x0 x1 x2 x3 x4 x5 : Int) (l : List UInt8) : lineM 4 x0 x1 x2 x3 x4 x5 l = if (x2 = 0 ∧ x3 = 0) ∧ x4 = 0 ∧ x5 = 0 ∧ l.length = 0 then [104, 97, 110, 103] ++ [32] ++ devS x0 x1 else [] := rfl
theorem line5 (x0 x1 x2 x3 x4 x5 : Int) (l : List UInt8) : lineM 5 x0 x1 x2 x3 x4 x5 l = if (x0 = 0 ∧ x1 = 0) ∧ (x2 = 0 ∧ x3 = 0) ∧ x5 = 0 ∧ l.length = 0 then [116, 105, 99, 107] ++ [32] ++ Lib.itoa x4 else [] := rfl
theorem line6 (x0 x1 x2 x3 x4 x5 : Int) (l : List UInt8) : lineM 6 x0 x1 x2 x3 x4 x5 l = if (x0 = 0 ∧ x1 = 0) ∧ (x2 = 0 ∧ x3 = 0) ∧ x5 = 0 ∧ l.length = 0 then [100, 101, 108, 105, 118, 101, 114] ++ [32] ++ Lib.itoa x4 else [] := rfl
theorem line7 (x0 x1 x2 x3 x4 x5 : Int) (l : List UInt8) : lineM 7 x0 x1 x2 x3 x4 x5 l = if (x0 = 0 ∧ x1 = 0) ∧ (x2 = 0 ∧ x3 = 0) ∧ x5 = 0 ∧ l.length = 0 then [100, 114, 111, 112] ++ [32] ++ Lib.itoa x4 else [] := rfl
theorem line8 (x0 x1 x2 x3 x4 x5 : Int) (l : List UInt8) : lineM 8 x0 x1 x2 x3 x4 x5 l = if (x0 = 0 ∧ x1 = 0) ∧ (x2 = 0 ∧ x3 = 0) ∧ x5 = 0 ∧ l.length = 0 then [100, 111, 117, 98, 108, 101] ++ [32] ++ Lib.itoa x4 else [] := rfl
theorem line9 (x0 x1 x2 x3 x4 x5 : Int) (l : List UInt8) : lineM 9 x0 x1 x2 x3 x4 x5 l = if (x0 = 0 ∧ x1 = 0) ∧ (x2 = 0 ∧ x3 = 0) ∧ l.length = 0 then [116, 97, 109, 112, 101, 114] ++ [32] ++ Lib.itoa x4 ++ [32] ++ Lib.decDigits x5.toNat else [] := rfl
theorem line10 (x0 x1 x2 x3 x4 x5 : Int) (l : List UInt8) : lineM 10 x0 x1 x2 x3 x4 x5 l = if (x2 = 0 ∧ x3 = 0) ∧ x4 = 0 ∧ x5 = 0 then [105, 110, 106, 101, 99, 116] ++ [32] ++ devS x0 x1 ++ [32] ++ hexS l else [] := rfl
theorem line11 (x0 x1 x2 x3 x4 x5 : Int) (l : List UInt8) : lineM 11 x0 x1 x2 x3 x4 x5 l = if (x2 = 0 ∧ x3 = 0) ∧ x4 = 0 ∧ x5 = 0 ∧ l.length = 0 then [99, 114, 101, 97, 116, 101] ++ [32] ++ devS x0 x1 else [] := rfl
theorem line12 (x0 x1 x2 x3 x4 x5 : Int) (l : List UInt8) : lineM 12 x0 x1 x2 x3 x4 x5 l = if x4 = 0 ∧ x5 = 0 ∧ l.length = 0 then [97, 100, 100] ++ [32] ++ devS x0 x1 ++ [32] ++ devS x2 x3 else [] := rfl
theorem line13 (x0 x1 x2 x3 x4 x5 : Int) (l : List UInt8) : lineM 13 x0 x1 x2 x3 x4 x5 l = if x4 = 0 ∧ x5 = 0 ∧ l.length = 0 then [107, 105, 99, 107] ++ [32] ++ devS x0 x1 ++ [32] ++ devS x2 x3 else [] := rfl
theorem line14 (x0 x1 x2 x3 x4 x5 : Int) (l : List UInt8) : lineM 14 x0 x1 x2 x3 x4 x5 l = if (x2 = 0 ∧ x3 = 0) ∧ x4 = 0 ∧ x5 = 0 ∧ l.length = 0 then [108, 101, 97, 118, 101] ++ [32] ++ devS x0 x1 else [] := rfl
theorem line15 (x0 x1 x2 x3 x4 x5 : Int) (l : List UInt8) : lineM 15 x0 x1 x2 x3 x4 x5 l = if (x2 = 0 ∧ x3 = 0) ∧ x4 = 0 ∧ x5 = 0 then [102, 114, 97, 109, 101] ++ [32] ++ devS x0 x1 ++ [32] ++ hexS l else [] := rfl
structure Rg (x0 x1 x2 x3 x4 x5 : Int) (l : List UInt8) : Prop where
  g0 : 0 ≤ x0 ∧ x0 ≤ 255
  g1 : 0 ≤ x1 ∧ x1 ≤ 255
  g2 : 0 ≤ x2 ∧ x2 ≤ 255
  g3 : 0 ≤ x3 ∧ x3 ≤ 255
  g4 : -9223372036854775808 ≤ x4 ∧ x4 ≤ 9223372036854775807
  g5 : 0 ≤ x5 ∧ x5 ≤ 18446744073709551615
  gl : l.length ≤ 10000000
def Sd (f : Nat → Int) (s : List UInt8) : Prop := strD f = s ∧ 0 ≤ f 0
theorem Sd.cat {f g : Nat → Int} {a b : List UInt8} (hf : Sd f a) (hg : Sd g b) : Sd (catF f g) (a ++ b) := by
  refine ⟨by rw [strD_catF _ _ hf.2 hg.2, hf.1, hg.1], ?_⟩
  rw [catF0]
  have := hf.2
  have := hg.2
  omega
theorem Sd.row (s : List UInt8) : Sd (rowS s) s := ⟨strD_rowS s, Int.natCast_nonneg _⟩
theorem Sd.lit (s : List UInt8) (f : Nat → Int) (h : f = rowS s) : Sd f s := h ▸ Sd.row s
theorem lit_row (n : Int) (r : List Int) (s : List UInt8) (hn : n = s.length) (hr : r = s.map fun b => ((b.toNat : Nat) : Int)) : rowLF (n :: r) = rowS s := by
  subst hn hr
  funext j
  cases j with
  | zero => rfl
  | succ j =>
    simp only [rowLF, rowS, List.getD_cons_succ]
    by_cases h : j < s.length
    · simp [List.getD, h]
    · simp [List.getD, h]
theorem lenD (n : Int) (h : n ≤ 18446744073709551615) : 0 ≤ rowS (Lib.decDigits n.toNat) 0 ∧ rowS (Lib.decDigits n.toNat) 0 ≤ 20 := by
  have := dec_len20 19 n.toNat (by have : (10 : Nat) ^ (19 + 1) = 100000000000000000000 := by decide
                                   omega)
  rw [rowS0]
  omega
theorem lenI (n : Int) (h : -9223372036854775808 ≤ n ∧ n ≤ 9223372036854775807) : 0 ≤ rowS (Lib.itoa n) 0 ∧ rowS (Lib.itoa n) 0 ≤ 21 := by
  rw [rowS0]
  unfold Lib.itoa
  split
  · have := dec_len20 19 n.natAbs (by have : (10 : Nat) ^ (19 + 1) = 100000000000000000000 := by decide
                                      omega)
    simp only [List.length_cons]
    omega
  · have := dec_len20 19 n.toNat (by have : (10 : Nat) ^ (19 + 1) = 100000000000000000000 := by decide
                                     omega)
    omega
theorem hexS_len (l : List UInt8) : (hexS l).length ≤ 2 * l.length + 1 := by
  unfold hexS
  split
  · simp
  · simp
theorem lenH (l : List UInt8) (h : l.length ≤ 10000000) : 0 ≤ rowS (hexS l) 0 ∧ rowS (hexS l) 0 ≤ 20000001 := by
  have := hexS_len l
  rw [rowS0]
  omega
theorem Rg.facts {x0 x1 x2 x3 x4 x5 : Int} {l : List UInt8} (h : Rg x0 x1 x2 x3 x4 x5 l) : (0 ≤ x0 ∧ x0 ≤ 255) ∧ (0 ≤ x1 ∧ x1 ≤ 255) ∧ (0 ≤ x2 ∧ x2 ≤ 255) ∧ (0 ≤ x3 ∧ x3 ≤ 255) ∧ (-9223372036854775808 ≤ x4 ∧ x4 ≤ 9223372036854775807) ∧ (0 ≤ x5 ∧ x5 ≤ 18446744073709551615) ∧ l.length ≤ 10000000 ∧
    IntKind.u64.wrap x0 = x0 ∧ IntKind.u64.wrap x1 = x1 ∧ IntKind.u64.wrap x2 = x2 ∧ IntKind.u64.wrap x3 = x3 ∧ (0 ≤ rowS (Lib.decDigits x0.toNat) 0 ∧ rowS (Lib.decDigits x0.toNat) 0 ≤ 20) ∧ (0 ≤ rowS (Lib.decDigits x1.toNat) 0 ∧ rowS (Lib.decDigits x1.toNat) 0 ≤ 20) ∧
    (0 ≤ rowS (Lib.decDigits x2.toNat) 0 ∧ rowS (Lib.decDigits x2.toNat) 0 ≤ 20) ∧ (0 ≤ rowS (Lib.decDigits x3.toNat) 0 ∧ rowS (Lib.decDigits x3.toNat) 0 ≤ 20) ∧ (0 ≤ rowS (Lib.itoa x4) 0 ∧ rowS (Lib.itoa x4) 0 ≤ 21) ∧ (0 ≤ rowS (Lib.decDigits x5.toNat) 0 ∧ rowS (Lib.decDigits x5.toNat) 0 ≤ 20) ∧ (0 ≤ rowS (hexS l) 0 ∧ rowS (hexS l) 0 ≤ 20000001) := by
  obtain ⟨g0, g1, g2, g3, g4, g5, gl⟩ := h
  exact ⟨g0, g1, g2, g3, g4, g5, gl, IntWalk.u64_in x0 (by omega), IntWalk.u64_in x1 (by omega), IntWalk.u64_in x2 (by omega), IntWalk.u64_in x3 (by omega), lenD x0 (by omega), lenD x1 (by omega), lenD x2 (by omega), lenD x3 (by omega), lenI x4 g4, lenD x5 (by omega), lenH l gl⟩
def lineV (s : List UInt8) : Value := .tuple #[strV s, .bool (!s.isEmpty)]
theorem tup_eq {f : Nat → Int} {s L : List UInt8} (h : Sd f s) (hL : L = s) (hs : s.isEmpty = false) : Value.tuple #[.string ⟨(strD f).toArray⟩, .bool true] = lineV L := by
  subst hL
  unfold lineV strV
  rw [h.1, hs]
  rfl
theorem none_eq {L : List UInt8} (h : L = []) : Value.tuple #[.string ⟨#[]⟩, .bool false] = lineV L := by subst h; rfl
def movV (k : Nat) (x0 x1 x2 x3 x4 x5 : Int) (v : V1) : Value := .agg #[.int .u8 k, .int .u8 x0, .int .u8 x1, .int .u8 x2, .int .u8 x3, .int .i64 x4, .int .u64 x5, v.v]
abbrev sliB (v : V1) (l : List UInt8) : HP := sliHP false 5 1 v.v l.length (cellsB l)
theorem pl1_meets (hL : Laid0 w0 n0) (x0 x1 x2 x3 x4 x5 : Int) (l : List UInt8) (v : V1) (h : Rg x0 x1 x2 x3 x4 x5 l) : Meets Tryd.prog 12 [movV 1 x0 x1 x2 x3 x4 x5 v] [keptHP n0 w0, sliB v l] fun x _ => x = lineV (lineM 1 x0 x1 x2 x3 x4 x5 l) := by
  obtain ⟨g0, g1, g2, g3, g4, g5, gl, w0', w1', w2', w3', l0, l1, l2, l3, l4, l5, l6⟩ := h.facts
  have := Meets.of_runE (C := cxL) (cnt := { i := 7, a := 1, p := 1, v := 1 }) (ρ := { iv := [x0, x1, x2, x3, x4, x5, (l.length : Int)], av := [bytesF l], vv := [v], pv := [keptHP n0 w0] }) okT okFT okM Tryd.func12 (by constructor <;> rfl) (Post := fun x _ => x = lineV (lineM 1 x0 x1 x2 x3 x4 x5 l))
    (args := [.agg [.int .u8 (.lit 1), .int .u8 (.var 0), .int .u8 (.var 1), .int .u8 (.var 2), .int .u8 (.var 3), .int .i64 (.var 4), .int .u64 (.var 5), .vv 0]]) (hp := [.abs 0, .sli false 0 5 1 (.var 6) [⟨.int .u8, 1, .avar 0⟩]]) run_pl1 (vc_pl1 Tryd.prog (fun x _ => x = lineV (lineM 1 x0 x1 x2 x3 x4 x5 l)) x0 x1 x2 x3 x4 x5 l.length (bytesF l) v (keptHP n0 w0) (fun _ => LC.none)) ?_ (Sc.pure_ok cxL rfl)
  · exact this
  · unfold st_pl1
    rw [w0', w1']
    repeat (first | (intro _) | (refine ⟨by omega, fun _ => ?_⟩))
    refine ⟨_, fmtI hL x0 (by omega) (by omega), ?_⟩
    rintro _ _ ⟨rfl, rfl⟩
    refine ⟨rowS (Lib.decDigits x0.toNat), strV_row _, rfl, ?_⟩
    repeat (first | (intro _) | (refine ⟨by omega, fun _ => ?_⟩))
    refine ⟨_, fmtI hL x1 (by omega) (by omega), ?_⟩
    rintro _ _ ⟨rfl, rfl⟩
    refine ⟨rowS (Lib.decDigits x1.toNat), strV_row _, rfl, ?_⟩
    repeat (first | (intro _) | (refine ⟨by omega, fun _ => ?_⟩))
    refine ⟨_, itoa_meets hL x4 g4.1 g4.2, ?_⟩
    rintro _ _ ⟨rfl, rfl⟩
    refine ⟨rowS (Lib.itoa x4), strV_row _, rfl, ?_⟩
    repeat (first | (intro _) | (refine ⟨by omega, fun _ => ?_⟩))
    refine ⟨fun h => ?_, fun h => ?_⟩
    · exact none_eq (by rw [line1, if_neg (by omega)])
    · repeat (first | (intro _) | (refine ⟨by omega, fun _ => ?_⟩))
      refine tup_eq (s := (([100, 105, 97, 108] ++ [32]) ++ ((((Lib.decDigits x0.toNat ++ [47]) ++ Lib.decDigits x1.toNat) ++ [32]) ++ Lib.itoa x4))) ?_ ?_ rfl
      · repeat (first | exact Sd.row _ | (exact Sd.lit _ _ (lit_row _ _ _ rfl rfl)) | refine Sd.cat ?_ ?_)
      · rw [line1, if_pos (by omega)]
        try simp only [devS, List.append_assoc, List.cons_append, List.nil_append]
theorem pl2_meets (hL : Laid0 w0 n0) (x0 x1 x2 x3 x4 x5 : Int) (l : List UInt8) (v : V1) (h : Rg x0 x1 x2 x3 x4 x5 l) : Meets Tryd.prog 12 [movV 2 x0 x1 x2 x3 x4 x5 v] [keptHP n0 w0, sliB v l] fun x _ => x = lineV (lineM 2 x0 x1 x2 x3 x4 x5 l) := by
  obtain ⟨g0, g1, g2, g3, g4, g5, gl, w0', w1', w2', w3', l0, l1, l2, l3, l4, l5, l6⟩ := h.facts
  have := Meets.of_runE (C := cxL) (cnt := { i := 7, a := 1, p := 1, v := 1 }) (ρ := { iv := [x0, x1, x2, x3, x4, x5, (l.length : Int)], av := [bytesF l], vv := [v], pv := [keptHP n0 w0] }) okT okFT okM Tryd.func12 (by constructor <;> rfl) (Post := fun x _ => x = lineV (lineM 2 x0 x1 x2 x3 x4 x5 l))
    (args := [.agg [.int .u8 (.lit 2), .int .u8 (.var 0), .int .u8 (.var 1), .int .u8 (.var 2), .int .u8 (.var 3), .int .i64 (.var 4), .int .u64 (.var 5), .vv 0]]) (hp := [.abs 0, .sli false 0 5 1 (.var 6) [⟨.int .u8, 1, .avar 0⟩]]) run_pl2 (vc_pl2 Tryd.prog (fun x _ => x = lineV (lineM 2 x0 x1 x2 x3 x4 x5 l)) x0 x1 x2 x3 x4 x5 l.length (bytesF l) v (keptHP n0 w0) (fun _ => LC.none)) ?_ (Sc.pure_ok cxL rfl)
  · exact this
  · unfold st_pl2
    rw [w0', w1']
    repeat (first | (intro _) | (refine ⟨by omega, fun _ => ?_⟩))
    refine ⟨_, fmtI hL x0 (by omega) (by omega), ?_⟩
    rintro _ _ ⟨rfl, rfl⟩
    refine ⟨rowS (Lib.decDigits x0.toNat), strV_row _, rfl, ?_⟩
    repeat (first | (intro _) | (refine ⟨by omega, fun _ => ?_⟩))
    refine ⟨_, fmtI hL x1 (by omega) (by omega), ?_⟩
    rintro _ _ ⟨rfl, rfl⟩
    refine ⟨rowS (Lib.decDigits x1.toNat), strV_row _, rfl, ?_⟩
    repeat (first | (intro _) | (refine ⟨by omega, fun _ => ?_⟩))
    refine ⟨fun h => ?_, fun h => ?_⟩
    · exact none_eq (by rw [line2, if_neg (by omega)])
    · repeat (first | (intro _) | (refine ⟨by omega, fun _ => ?_⟩))
      refine tup_eq (s := (([97, 110, 115, 119, 101, 114] ++ [32]) ++ ((Lib.decDigits x0.toNat ++ [47]) ++ Lib.decDigits x1.toNat))) ?_ ?_ rfl
      · repeat (first | exact Sd.row _ | (exact Sd.lit _ _ (lit_row _ _ _ rfl rfl)) | refine Sd.cat ?_ ?_)
      · rw [line2, if_pos (by omega)]
        try simp only [devS, List.append_assoc, List.cons_append, List.nil_append]
theorem pl3_meets (hL : Laid0 w0 n0) (x0 x1 x2 x3 x4 x5 : Int) (l : List UInt8) (v : V1) (h : Rg x0 x1 x2 x3 x4 x5 l) : Meets Tryd.prog 12 [movV 3 x0 x1 x2 x3 x4 x5 v] [keptHP n0 w0, sliB v l] fun x _ => x = lineV (lineM 3 x0 x1 x2 x3 x4 x5 l) := by
  obtain ⟨g0, g1, g2, g3, g4, g5, gl, w0', w1', w2', w3', l0, l1, l2, l3, l4, l5, l6⟩ := h.facts
  have := Meets.of_runE (C := cxL) (cnt := { i := 7, a := 1, p := 1, v := 1 }) (ρ := { iv := [x0, x1, x2, x3, x4, x5, (l.length : Int)], av := [bytesF l], vv := [v], pv := [keptHP n0 w0] }) okT okFT okM Tryd.func12 (by constructor <;> rfl) (Post := fun x _ => x = lineV (lineM 3 x0 x1 x2 x3 x4 x5 l))
    (args := [.agg [.int .u8 (.lit 3), .int .u8 (.var 0), .int .u8 (.var 1), .int .u8 (.var 2), .int .u8 (.var 3), .int .i64 (.var 4), .int .u64 (.var 5), .vv 0]]) (hp := [.abs 0, .sli false 0 5 1 (.var 6) [⟨.int .u8, 1, .avar 0⟩]]) run_pl3 (vc_pl3 Tryd.prog (fun x _ => x = lineV (lineM 3 x0 x1 x2 x3 x4 x5 l)) x0 x1 x2 x3 x4 x5 l.length (bytesF l) v (keptHP n0 w0) (fun _ => LC.none)) ?_ (Sc.pure_ok cxL rfl)
  · exact this
  · unfold st_pl3
    rw [w0', w1']
    repeat (first | (intro _) | (refine ⟨by omega, fun _ => ?_⟩))
    refine ⟨_, fmtI hL x0 (by omega) (by omega), ?_⟩
    rintro _ _ ⟨rfl, rfl⟩
    refine ⟨rowS (Lib.decDigits x0.toNat), strV_row _, rfl, ?_⟩
    repeat (first | (intro _) | (refine ⟨by omega, fun _ => ?_⟩))
    refine ⟨_, fmtI hL x1 (by omega) (by omega), ?_⟩
    rintro _ _ ⟨rfl, rfl⟩
    refine ⟨rowS (Lib.decDigits x1.toNat), strV_row _, rfl, ?_⟩
    repeat (first | (intro _) | (refine ⟨by omega, fun _ => ?_⟩))
    refine ⟨fun h => ?_, fun h => ?_⟩
    · exact none_eq (by rw [line3, if_neg (by omega)])
    · repeat (first | (intro _) | (refine ⟨by omega, fun _ => ?_⟩))
      refine tup_eq (s := (([100, 101, 99, 108, 105, 110, 101] ++ [32]) ++ ((Lib.decDigits x0.toNat ++ [47]) ++ Lib.decDigits x1.toNat))) ?_ ?_ rfl
      · repeat (first | exact Sd.row _ | (exact Sd.lit _ _ (lit_row _ _ _ rfl rfl)) | refine Sd.cat ?_ ?_)
      · rw [line3, if_pos (by omega)]
        try simp only [devS, List.append_assoc, List.cons_append, List.nil_append]
theorem pl4_meets (hL : Laid0 w0 n0) (x0 x1 x2 x3 x4 x5 : Int) (l : List UInt8) (v : V1) (h : Rg x0 x1 x2 x3 x4 x5 l) : Meets Tryd.prog 12 [movV 4 x0 x1 x2 x3 x4 x5 v] [keptHP n0 w0, sliB v l] fun x _ => x = lineV (lineM 4 x0 x1 x2 x3 x4 x5 l) := by
  obtain ⟨g0, g1, g2, g3, g4, g5, gl, w0', w1', w2', w3', l0, l1, l2, l3, l4, l5, l6⟩ := h.facts
  have := Meets.of_runE (C := cxL) (cnt := { i := 7, a := 1, p := 1, v := 1 }) (ρ := { iv := [x0, x1, x2, x3, x4, x5, (l.length : Int)], av := [bytesF l], vv := [v], pv := [keptHP n0 w0] }) okT okFT okM Tryd.func12 (by constructor <;> rfl) (Post := fun x _ => x = lineV (lineM 4 x0 x1 x2 x3 x4 x5 l))
    (args := [.agg [.int .u8 (.lit 4), .int .u8 (.var 0), .int .u8 (.var 1), .int .u8 (.var 2), .int .u8 (.var 3), .int .i64 (.var 4), .int .u64 (.var 5), .vv 0]]) (hp := [.abs 0, .sli false 0 5 1 (.var 6) [⟨.int .u8, 1, .avar 0⟩]]) run_pl4 (vc_pl4 Tryd.prog (fun x _ => x = lineV (lineM 4 x0 x1 x2 x3 x4 x5 l)) x0 x1 x2 x3 x4 x5 l.length (bytesF l) v (keptHP n0 w0) (fun _ => LC.none)) ?_ (Sc.pure_ok cxL rfl)
  · exact this
  · unfold st_pl4
    rw [w0', w1']
    repeat (first | (intro _) | (refine ⟨by omega, fun _ => ?_⟩))
    refine ⟨_, fmtI hL x0 (by omega) (by omega), ?_⟩
    rintro _ _ ⟨rfl, rfl⟩
    refine ⟨rowS (Lib.decDigits x0.toNat), strV_row _, rfl, ?_⟩
    repeat (first | (intro _) | (refine ⟨by omega, fun _ => ?_⟩))
    refine ⟨_, fmtI hL x1 (by omega) (by omega), ?_⟩
    rintro _ _ ⟨rfl, rfl⟩
    refine ⟨rowS (Lib.decDigits x1.toNat), strV_row _, rfl, ?_⟩
    repeat (first | (intro _) | (refine ⟨by omega, fun _ => ?_⟩))
    refine ⟨fun h => ?_, fun h => ?_⟩
    · exact none_eq (by rw [line4, if_neg (by omega)])
    · repeat (first | (intro _) | (refine ⟨by omega, fun _ => ?_⟩))
      refine tup_eq (s := (([104, 97, 110, 103] ++ [32]) ++ ((Lib.decDigits x0.toNat ++ [47]) ++ Lib.decDigits x1.toNat))) ?_ ?_ rfl
      · repeat (first | exact Sd.row _ | (exact Sd.lit _ _ (lit_row _ _ _ rfl rfl)) | refine Sd.cat ?_ ?_)
      · rw [line4, if_pos (by omega)]
        try simp only [devS, List.append_assoc, List.cons_append, List.nil_append]
theorem pl5_meets (hL : Laid0 w0 n0) (x0 x1 x2 x3 x4 x5 : Int) (l : List UInt8) (v : V1) (h : Rg x0 x1 x2 x3 x4 x5 l) : Meets Tryd.prog 12 [movV 5 x0 x1 x2 x3 x4 x5 v] [keptHP n0 w0, sliB v l] fun x _ => x = lineV (lineM 5 x0 x1 x2 x3 x4 x5 l) := by
  obtain ⟨g0, g1, g2, g3, g4, g5, gl, w0', w1', w2', w3', l0, l1, l2, l3, l4, l5, l6⟩ := h.facts
  have := Meets.of_runE (C := cxL) (cnt := { i := 7, a := 1, p := 1, v := 1 }) (ρ := { iv := [x0, x1, x2, x3, x4, x5, (l.length : Int)], av := [bytesF l], vv := [v], pv := [keptHP n0 w0] }) okT okFT okM Tryd.func12 (by constructor <;> rfl) (Post := fun x _ => x = lineV (lineM 5 x0 x1 x2 x3 x4 x5 l))
    (args := [.agg [.int .u8 (.lit 5), .int .u8 (.var 0), .int .u8 (.var 1), .int .u8 (.var 2), .int .u8 (.var 3), .int .i64 (.var 4), .int .u64 (.var 5), .vv 0]]) (hp := [.abs 0, .sli false 0 5 1 (.var 6) [⟨.int .u8, 1, .avar 0⟩]]) run_pl5 (vc_pl5 Tryd.prog (fun x _ => x = lineV (lineM 5 x0 x1 x2 x3 x4 x5 l)) x0 x1 x2 x3 x4 x5 l.length (bytesF l) v (keptHP n0 w0) (fun _ => LC.none)) ?_ (Sc.pure_ok cxL rfl)
  · exact this
  · unfold st_pl5
    repeat (first | (intro _) | (refine ⟨by omega, fun _ => ?_⟩))
    refine ⟨_, itoa_meets hL x4 g4.1 g4.2, ?_⟩
    rintro _ _ ⟨rfl, rfl⟩
    refine ⟨rowS (Lib.itoa x4), strV_row _, rfl, ?_⟩
    repeat (first | (intro _) | (refine ⟨by omega, fun _ => ?_⟩))
    refine ⟨fun h => ?_, fun h => ?_⟩
    · exact none_eq (by rw [line5, if_neg (by omega)])
    · repeat (first | (intro _) | (refine ⟨by omega, fun _ => ?_⟩))
      refine tup_eq (s := (([116, 105, 99, 107] ++ [32]) ++ Lib.itoa x4)) ?_ ?_ rfl
      · repeat (first | exact Sd.row _ | (exact Sd.lit _ _ (lit_row _ _ _ rfl rfl)) | refine Sd.cat ?_ ?_)
      · rw [line5, if_pos (by omega)]
        try simp only [devS, List.append_assoc, List.cons_append, List.nil_append]
theorem pl6_meets (hL : Laid0 w0 n0) (x0 x1 x2 x3 x4 x5 : Int) (l : List UInt8) (v : V1) (h : Rg x0 x1 x2 x3 x4 x5 l) : Meets Tryd.prog 12 [movV 6 x0 x1 x2 x3 x4 x5 v] [keptHP n0 w0, sliB v l] fun x _ => x = lineV (lineM 6 x0 x1 x2 x3 x4 x5 l) := by
  obtain ⟨g0, g1, g2, g3, g4, g5, gl, w0', w1', w2', w3', l0, l1, l2, l3, l4, l5, l6⟩ := h.facts
  have := Meets.of_runE (C := cxL) (cnt := { i := 7, a := 1, p := 1, v := 1 }) (ρ := { iv := [x0, x1, x2, x3, x4, x5, (l.length : Int)], av := [bytesF l], vv := [v], pv := [keptHP n0 w0] }) okT okFT okM Tryd.func12 (by constructor <;> rfl) (Post := fun x _ => x = lineV (lineM 6 x0 x1 x2 x3 x4 x5 l))
    (args := [.agg [.int .u8 (.lit 6), .int .u8 (.var 0), .int .u8 (.var 1), .int .u8 (.var 2), .int .u8 (.var 3), .int .i64 (.var 4), .int .u64 (.var 5), .vv 0]]) (hp := [.abs 0, .sli false 0 5 1 (.var 6) [⟨.int .u8, 1, .avar 0⟩]]) run_pl6 (vc_pl6 Tryd.prog (fun x _ => x = lineV (lineM 6 x0 x1 x2 x3 x4 x5 l)) x0 x1 x2 x3 x4 x5 l.length (bytesF l) v (keptHP n0 w0) (fun _ => LC.none)) ?_ (Sc.pure_ok cxL rfl)
  · exact this
  · unfold st_pl6
    repeat (first | (intro _) | (refine ⟨by omega, fun _ => ?_⟩))
    refine ⟨_, itoa_meets hL x4 g4.1 g4.2, ?_⟩
    rintro _ _ ⟨rfl, rfl⟩
    refine ⟨rowS (Lib.itoa x4), strV_row _, rfl, ?_⟩
    repeat (first | (intro _) | (refine ⟨by omega, fun _ => ?_⟩))
    refine ⟨fun h => ?_, fun h => ?_⟩
    · exact none_eq (by rw [line6, if_neg (by omega)])
    · repeat (first | (intro _) | (refine ⟨by omega, fun _ => ?_⟩))
      refine tup_eq (s := (([100, 101, 108, 105, 118, 101, 114] ++ [32]) ++ Lib.itoa x4)) ?_ ?_ rfl
      · repeat (first | exact Sd.row _ | (exact Sd.lit _ _ (lit_row _ _ _ rfl rfl)) | refine Sd.cat ?_ ?_)
      · rw [line6, if_pos (by omega)]
        try simp only [devS, List.append_assoc, List.cons_append, List.nil_append]
theorem pl7_meets (hL : Laid0 w0 n0) (x0 x1 x2 x3 x4 x5 : Int) (l : List UInt8) (v : V1) (h : Rg x0 x1 x2 x3 x4 x5 l) : Meets Tryd.prog 12 [movV 7 x0 x1 x2 x3 x4 x5 v] [keptHP n0 w0, sliB v l] fun x _ => x = lineV (lineM 7 x0 x1 x2 x3 x4 x5 l) := by
  obtain ⟨g0, g1, g2, g3, g4, g5, gl, w0', w1', w2', w3', l0, l1, l2, l3, l4, l5, l6⟩ := h.facts
  have := Meets.of_runE (C := cxL) (cnt := { i := 7, a := 1, p := 1, v := 1 }) (ρ := { iv := [x0, x1, x2, x3, x4, x5, (l.length : Int)], av := [bytesF l], vv := [v], pv := [keptHP n0 w0] }) okT okFT okM Tryd.func12 (by constructor <;> rfl) (Post := fun x _ => x = lineV (lineM 7 x0 x1 x2 x3 x4 x5 l))
    (args := [.agg [.int .u8 (.lit 7), .int .u8 (.var 0), .int .u8 (.var 1), .int .u8 (.var 2), .int .u8 (.var 3), .int .i64 (.var 4), .int .u64 (.var 5), .vv 0]]) (hp := [.abs 0, .sli false 0 5 1 (.var 6) [⟨.int .u8, 1, .avar 0⟩]]) run_pl7 (vc_pl7 Tryd.prog (fun x _ => x = lineV (lineM 7 x0 x1 x2 x3 x4 x5 l)) x0 x1 x2 x3 x4 x5 l.length (bytesF l) v (keptHP n0 w0) (fun _ => LC.none)) ?_ (Sc.pure_ok cxL rfl)
  · exact this
  · unfold st_pl7
    repeat (first | (intro _) | (refine ⟨by omega, fun _ => ?_⟩))
    refine ⟨_, itoa_meets hL x4 g4.1 g4.2, ?_⟩
    rintro _ _ ⟨rfl, rfl⟩
    refine ⟨rowS (Lib.itoa x4), strV_row _, rfl, ?_⟩
    repeat (first | (intro _) | (refine ⟨by omega, fun _ => ?_⟩))
    refine ⟨fun h => ?_, fun h => ?_⟩
    · exact none_eq (by rw [line7, if_neg (by omega)])
    · repeat (first | (intro _) | (refine ⟨by omega, fun _ => ?_⟩))
      refine tup_eq (s := (([100, 114, 111, 112] ++ [32]) ++ Lib.itoa x4)) ?_ ?_ rfl
      · repeat (first | exact Sd.row _ | (exact Sd.lit _ _ (lit_row _ _ _ rfl rfl)) | refine Sd.cat ?_ ?_)
      · rw [line7, if_pos (by omega)]
        try simp only [devS, List.append_assoc, List.cons_append, List.nil_append]
theorem pl8_meets (hL : Laid0 w0 n0) (x0 x1 x2 x3 x4 x5 : Int) (l : List UInt8) (v : V1) (h : Rg x0 x1 x2 x3 x4 x5 l) : Meets Tryd.prog 12 [movV 8 x0 x1 x2 x3 x4 x5 v] [keptHP n0 w0, sliB v l] fun x _ => x = lineV (lineM 8 x0 x1 x2 x3 x4 x5 l) := by
  obtain ⟨g0, g1, g2, g3, g4, g5, gl, w0', w1', w2', w3', l0, l1, l2, l3, l4, l5, l6⟩ := h.facts
  have := Meets.of_runE (C := cxL) (cnt := { i := 7, a := 1, p := 1, v := 1 }) (ρ := { iv := [x0, x1, x2, x3, x4, x5, (l.length : Int)], av := [bytesF l], vv := [v], pv := [keptHP n0 w0] }) okT okFT okM Tryd.func12 (by constructor <;> rfl) (Post := fun x _ => x = lineV (lineM 8 x0 x1 x2 x3 x4 x5 l))
    (args := [.agg [.int .u8 (.lit 8), .int .u8 (.var 0), .int .u8 (.var 1), .int .u8 (.var 2), .int .u8 (.var 3), .int .i64 (.var 4), .int .u64 (.var 5), .vv 0]]) (hp := [.abs 0, .sli false 0 5 1 (.var 6) [⟨.int .u8, 1, .avar 0⟩]]) run_pl8 (vc_pl8 Tryd.prog (fun x _ => x = lineV (lineM 8 x0 x1 x2 x3 x4 x5 l)) x0 x1 x2 x3 x4 x5 l.length (bytesF l) v (keptHP n0 w0) (fun _ => LC.none)) ?_ (Sc.pure_ok cxL rfl)
  · exact this
  · unfold st_pl8
    repeat (first | (intro _) | (refine ⟨by omega, fun _ => ?_⟩))
    refine ⟨_, itoa_meets hL x4 g4.1 g4.2, ?_⟩
    rintro _ _ ⟨rfl, rfl⟩
    refine ⟨rowS (Lib.itoa x4), strV_row _, rfl, ?_⟩
    repeat (first | (intro _) | (refine ⟨by omega, fun _ => ?_⟩))
    refine ⟨fun h => ?_, fun h => ?_⟩
    · exact none_eq (by rw [line8, if_neg (by omega)])
    · repeat (first | (intro _) | (refine ⟨by omega, fun _ => ?_⟩))
      refine tup_eq (s := (([100, 111, 117, 98, 108, 101] ++ [32]) ++ Lib.itoa x4)) ?_ ?_ rfl
      · repeat (first | exact Sd.row _ | (exact Sd.lit _ _ (lit_row _ _ _ rfl rfl)) | refine Sd.cat ?_ ?_)
      · rw [line8, if_pos (by omega)]
        try simp only [devS, List.append_assoc, List.cons_append, List.nil_append]
theorem pl9_meets (hL : Laid0 w0 n0) (x0 x1 x2 x3 x4 x5 : Int) (l : List UInt8) (v : V1) (h : Rg x0 x1 x2 x3 x4 x5 l) : Meets Tryd.prog 12 [movV 9 x0 x1 x2 x3 x4 x5 v] [keptHP n0 w0, sliB v l] fun x _ => x = lineV (lineM 9 x0 x1 x2 x3 x4 x5 l) := by
  obtain ⟨g0, g1, g2, g3, g4, g5, gl, w0', w1', w2', w3', l0, l1, l2, l3, l4, l5, l6⟩ := h.facts
  have := Meets.of_runE (C := cxL) (cnt := { i := 7, a := 1, p := 1, v := 1 }) (ρ := { iv := [x0, x1, x2, x3, x4, x5, (l.length : Int)], av := [bytesF l], vv := [v], pv := [keptHP n0 w0] }) okT okFT okM Tryd.func12 (by constructor <;> rfl) (Post := fun x _ => x = lineV (lineM 9 x0 x1 x2 x3 x4 x5 l))
    (args := [.agg [.int .u8 (.lit 9), .int .u8 (.var 0), .int .u8 (.var 1), .int .u8 (.var 2), .int .u8 (.var 3), .int .i64 (.var 4), .int .u64 (.var 5), .vv 0]]) (hp := [.abs 0, .sli false 0 5 1 (.var 6) [⟨.int .u8, 1, .avar 0⟩]]) run_pl9 (vc_pl9 Tryd.prog (fun x _ => x = lineV (lineM 9 x0 x1 x2 x3 x4 x5 l)) x0 x1 x2 x3 x4 x5 l.length (bytesF l) v (keptHP n0 w0) (fun _ => LC.none)) ?_ (Sc.pure_ok cxL rfl)
  · exact this
  · unfold st_pl9
    repeat (first | (intro _) | (refine ⟨by omega, fun _ => ?_⟩))
    refine ⟨_, itoa_meets hL x4 g4.1 g4.2, ?_⟩
    rintro _ _ ⟨rfl, rfl⟩
    refine ⟨rowS (Lib.itoa x4), strV_row _, rfl, ?_⟩
    repeat (first | (intro _) | (refine ⟨by omega, fun _ => ?_⟩))
    refine ⟨_, fmtI hL x5 (by omega) (by omega), ?_⟩
    rintro _ _ ⟨rfl, rfl⟩
    refine ⟨rowS (Lib.decDigits x5.toNat), strV_row _, rfl, ?_⟩
    repeat (first | (intro _) | (refine ⟨by omega, fun _ => ?_⟩))
    refine ⟨fun h => ?_, fun h => ?_⟩
    · exact none_eq (by rw [line9, if_neg (by omega)])
    · repeat (first | (intro _) | (refine ⟨by omega, fun _ => ?_⟩))
      refine tup_eq (s := (([116, 97, 109, 112, 101, 114] ++ [32]) ++ ((Lib.itoa x4 ++ [32]) ++ Lib.decDigits x5.toNat))) ?_ ?_ rfl
      · repeat (first | exact Sd.row _ | (exact Sd.lit _ _ (lit_row _ _ _ rfl rfl)) | refine Sd.cat ?_ ?_)
      · rw [line9, if_pos (by omega)]
        try simp only [List.append_assoc, List.cons_append, List.nil_append]
theorem pl10_meets (hL : Laid0 w0 n0) (x0 x1 x2 x3 x4 x5 : Int) (l : List UInt8) (v : V1) (h : Rg x0 x1 x2 x3 x4 x5 l) : Meets Tryd.prog 12 [movV 10 x0 x1 x2 x3 x4 x5 v] [keptHP n0 w0, sliB v l] fun x _ => x = lineV (lineM 10 x0 x1 x2 x3 x4 x5 l) := by
  obtain ⟨g0, g1, g2, g3, g4, g5, gl, w0', w1', w2', w3', l0, l1, l2, l3, l4, l5, l6⟩ := h.facts
  have := Meets.of_runE (C := cxL) (cnt := { i := 7, a := 1, p := 1, v := 1 }) (ρ := { iv := [x0, x1, x2, x3, x4, x5, (l.length : Int)], av := [bytesF l], vv := [v], pv := [keptHP n0 w0] }) okT okFT okM Tryd.func12 (by constructor <;> rfl) (Post := fun x _ => x = lineV (lineM 10 x0 x1 x2 x3 x4 x5 l))
    (args := [.agg [.int .u8 (.lit 10), .int .u8 (.var 0), .int .u8 (.var 1), .int .u8 (.var 2), .int .u8 (.var 3), .int .i64 (.var 4), .int .u64 (.var 5), .vv 0]]) (hp := [.abs 0, .sli false 0 5 1 (.var 6) [⟨.int .u8, 1, .avar 0⟩]]) run_pl10 (vc_pl10 Tryd.prog (fun x _ => x = lineV (lineM 10 x0 x1 x2 x3 x4 x5 l)) x0 x1 x2 x3 x4 x5 l.length (bytesF l) v (keptHP n0 w0) (fun _ => LC.none)) ?_ (Sc.pure_ok cxL rfl)
  · exact this
  · unfold st_pl10
    rw [w0', w1']
    repeat (first | (intro _) | (refine ⟨by omega, fun _ => ?_⟩))
    refine ⟨_, fmtI hL x0 (by omega) (by omega), ?_⟩
    rintro _ _ ⟨rfl, rfl⟩
    refine ⟨rowS (Lib.decDigits x0.toNat), strV_row _, rfl, ?_⟩
    repeat (first | (intro _) | (refine ⟨by omega, fun _ => ?_⟩))
    refine ⟨_, fmtI hL x1 (by omega) (by omega), ?_⟩
    rintro _ _ ⟨rfl, rfl⟩
    refine ⟨rowS (Lib.decDigits x1.toNat), strV_row _, rfl, ?_⟩
    repeat (first | (intro _) | (refine ⟨by omega, fun _ => ?_⟩))
    refine ⟨_, hex_meets v l gl, ?_⟩
    rintro _ _ ⟨rfl, rfl⟩
    refine ⟨rowS (hexS l), strV_row _, rfl, ?_⟩
    repeat (first | (intro _) | (refine ⟨by omega, fun _ => ?_⟩))
    refine ⟨fun h => ?_, fun h => ?_⟩
    · exact none_eq (by rw [line10, if_neg (by omega)])
    · repeat (first | (intro _) | (refine ⟨by omega, fun _ => ?_⟩))
      refine tup_eq (s := (([105, 110, 106, 101, 99, 116] ++ [32]) ++ ((((Lib.decDigits x0.toNat ++ [47]) ++ Lib.decDigits x1.toNat) ++ [32]) ++ hexS l))) ?_ ?_ rfl
      · repeat (first | exact Sd.row _ | (exact Sd.lit _ _ (lit_row _ _ _ rfl rfl)) | refine Sd.cat ?_ ?_)
      · rw [line10, if_pos (by omega)]
        try simp only [devS, List.append_assoc, List.cons_append, List.nil_append]
theorem pl11_meets (hL : Laid0 w0 n0) (x0 x1 x2 x3 x4 x5 : Int) (l : List UInt8) (v : V1) (h : Rg x0 x1 x2 x3 x4 x5 l) : Meets Tryd.prog 12 [movV 11 x0 x1 x2 x3 x4 x5 v] [keptHP n0 w0, sliB v l] fun x _ => x = lineV (lineM 11 x0 x1 x2 x3 x4 x5 l) := by
  obtain ⟨g0, g1, g2, g3, g4, g5, gl, w0', w1', w2', w3', l0, l1, l2, l3, l4, l5, l6⟩ := h.facts
  have := Meets.of_runE (C := cxL) (cnt := { i := 7, a := 1, p := 1, v := 1 }) (ρ := { iv := [x0, x1, x2, x3, x4, x5, (l.length : Int)], av := [bytesF l], vv := [v], pv := [keptHP n0 w0] }) okT okFT okM Tryd.func12 (by constructor <;> rfl) (Post := fun x _ => x = lineV (lineM 11 x0 x1 x2 x3 x4 x5 l))
    (args := [.agg [.int .u8 (.lit 11), .int .u8 (.var 0), .int .u8 (.var 1), .int .u8 (.var 2), .int .u8 (.var 3), .int .i64 (.var 4), .int .u64 (.var 5), .vv 0]]) (hp := [.abs 0, .sli false 0 5 1 (.var 6) [⟨.int .u8, 1, .avar 0⟩]]) run_pl11 (vc_pl11 Tryd.prog (fun x _ => x = lineV (lineM 11 x0 x1 x2 x3 x4 x5 l)) x0 x1 x2 x3 x4 x5 l.length (bytesF l) v (keptHP n0 w0) (fun _ => LC.none)) ?_ (Sc.pure_ok cxL rfl)
  · exact this
  · unfold st_pl11
    rw [w0', w1']
    repeat (first | (intro _) | (refine ⟨by omega, fun _ => ?_⟩))
    refine ⟨_, fmtI hL x0 (by omega) (by omega), ?_⟩
    rintro _ _ ⟨rfl, rfl⟩
    refine ⟨rowS (Lib.decDigits x0.toNat), strV_row _, rfl, ?_⟩
    repeat (first | (intro _) | (refine ⟨by omega, fun _ => ?_⟩))
    refine ⟨_, fmtI hL x1 (by omega) (by omega), ?_⟩
    rintro _ _ ⟨rfl, rfl⟩
    refine ⟨rowS (Lib.decDigits x1.toNat), strV_row _, rfl, ?_⟩
    repeat (first | (intro _) | (refine ⟨by omega, fun _ => ?_⟩))
    refine ⟨fun h => ?_, fun h => ?_⟩
    · exact none_eq (by rw [line11, if_neg (by omega)])
    · repeat (first | (intro _) | (refine ⟨by omega, fun _ => ?_⟩))
      refine tup_eq (s := (([99, 114, 101, 97, 116, 101] ++ [32]) ++ ((Lib.decDigits x0.toNat ++ [47]) ++ Lib.decDigits x1.toNat))) ?_ ?_ rfl
      · repeat (first | exact Sd.row _ | (exact Sd.lit _ _ (lit_row _ _ _ rfl rfl)) | refine Sd.cat ?_ ?_)
      · rw [line11, if_pos (by omega)]
        try simp only [devS, List.append_assoc, List.cons_append, List.nil_append]
theorem pl12_meets (hL : Laid0 w0 n0) (x0 x1 x2 x3 x4 x5 : Int) (l : List UInt8) (v : V1) (h : Rg x0 x1 x2 x3 x4 x5 l) : Meets Tryd.prog 12 [movV 12 x0 x1 x2 x3 x4 x5 v] [keptHP n0 w0, sliB v l] fun x _ => x = lineV (lineM 12 x0 x1 x2 x3 x4 x5 l) := by
  obtain ⟨g0, g1, g2, g3, g4, g5, gl, w0', w1', w2', w3', l0, l1, l2, l3, l4, l5, l6⟩ := h.facts
  have := Meets.of_runE (C := cxL) (cnt := { i := 7, a := 1, p := 1, v := 1 }) (ρ := { iv := [x0, x1, x2, x3, x4, x5, (l.length : Int)], av := [bytesF l], vv := [v], pv := [keptHP n0 w0] }) okT okFT okM Tryd.func12 (by constructor <;> rfl) (Post := fun x _ => x = lineV (lineM 12 x0 x1 x2 x3 x4 x5 l))
    (args := [.agg [.int .u8 (.lit 12), .int .u8 (.var 0), .int .u8 (.var 1), .int .u8 (.var 2), .int .u8 (.var 3), .int .i64 (.var 4), .int .u64 (.var 5), .vv 0]]) (hp := [.abs 0, .sli false 0 5 1 (.var 6) [⟨.int .u8, 1, .avar 0⟩]]) run_pl12 (vc_pl12 Tryd.prog (fun x _ => x = lineV (lineM 12 x0 x1 x2 x3 x4 x5 l)) x0 x1 x2 x3 x4 x5 l.length (bytesF l) v (keptHP n0 w0) (fun _ => LC.none)) ?_ (Sc.pure_ok cxL rfl)
  · exact this
  · unfold st_pl12
    rw [w0', w1', w2', w3']
    repeat (first | (intro _) | (refine ⟨by omega, fun _ => ?_⟩))
    refine ⟨_, fmtI hL x0 (by omega) (by omega), ?_⟩
    rintro _ _ ⟨rfl, rfl⟩
    refine ⟨rowS (Lib.decDigits x0.toNat), strV_row _, rfl, ?_⟩
    repeat (first | (intro _) | (refine ⟨by omega, fun _ => ?_⟩))
    refine ⟨_, fmtI hL x1 (by omega) (by omega), ?_⟩
    rintro _ _ ⟨rfl, rfl⟩
    refine ⟨rowS (Lib.decDigits x1.toNat), strV_row _, rfl, ?_⟩
    repeat (first | (intro _) | (refine ⟨by omega, fun _ => ?_⟩))
    refine ⟨_, fmtI hL x2 (by omega) (by omega), ?_⟩
    rintro _ _ ⟨rfl, rfl⟩
    refine ⟨rowS (Lib.decDigits x2.toNat), strV_row _, rfl, ?_⟩
    repeat (first | (intro _) | (refine ⟨by omega, fun _ => ?_⟩))
    refine ⟨_, fmtI hL x3 (by omega) (by omega), ?_⟩
    rintro _ _ ⟨rfl, rfl⟩
    refine ⟨rowS (Lib.decDigits x3.toNat), strV_row _, rfl, ?_⟩
    repeat (first | (intro _) | (refine ⟨by omega, fun _ => ?_⟩))
    refine ⟨fun h => ?_, fun h => ?_⟩
    · exact none_eq (by rw [line12, if_neg (by omega)])
    · repeat (first | (intro _) | (refine ⟨by omega, fun _ => ?_⟩))
      refine tup_eq (s := (([97, 100, 100] ++ [32]) ++ ((((Lib.decDigits x0.toNat ++ [47]) ++ Lib.decDigits x1.toNat) ++ [32]) ++ ((Lib.decDigits x2.toNat ++ [47]) ++ Lib.decDigits x3.toNat)))) ?_ ?_ rfl
      · repeat (first | exact Sd.row _ | (exact Sd.lit _ _ (lit_row _ _ _ rfl rfl)) | refine Sd.cat ?_ ?_)
      · rw [line12, if_pos (by omega)]
        try simp only [devS, List.append_assoc, List.cons_append, List.nil_append]
theorem pl13_meets (hL : Laid0 w0 n0) (x0 x1 x2 x3 x4 x5 : Int) (l : List UInt8) (v : V1) (h : Rg x0 x1 x2 x3 x4 x5 l) : Meets Tryd.prog 12 [movV 13 x0 x1 x2 x3 x4 x5 v] [keptHP n0 w0, sliB v l] fun x _ => x = lineV (lineM 13 x0 x1 x2 x3 x4 x5 l) := by
  obtain ⟨g0, g1, g2, g3, g4, g5, gl, w0', w1', w2', w3', l0, l1, l2, l3, l4, l5, l6⟩ := h.facts
  have := Meets.of_runE (C := cxL) (cnt := { i := 7, a := 1, p := 1, v := 1 }) (ρ := { iv := [x0, x1, x2, x3, x4, x5, (l.length : Int)], av := [bytesF l], vv := [v], pv := [keptHP n0 w0] }) okT okFT okM Tryd.func12 (by constructor <;> rfl) (Post := fun x _ => x = lineV (lineM 13 x0 x1 x2 x3 x4 x5 l))
    (args := [.agg [.int .u8 (.lit 13), .int .u8 (.var 0), .int .u8 (.var 1), .int .u8 (.var 2), .int .u8 (.var 3), .int .i64 (.var 4), .int .u64 (.var 5), .vv 0]]) (hp := [.abs 0, .sli false 0 5 1 (.var 6) [⟨.int .u8, 1, .avar 0⟩]]) run_pl13 (vc_pl13 Tryd.prog (fun x _ => x = lineV (lineM 13 x0 x1 x2 x3 x4 x5 l)) x0 x1 x2 x3 x4 x5 l.length (bytesF l) v (keptHP n0 w0) (fun _ => LC.none)) ?_ (Sc.pure_ok cxL rfl)
  · exact this
  · unfold st_pl13
    rw [w0', w1', w2', w3']
    repeat (first | (intro _) | (refine ⟨by omega, fun _ => ?_⟩))
    refine ⟨_, fmtI hL x0 (by omega) (by omega), ?_⟩
    rintro _ _ ⟨rfl, rfl⟩
    refine ⟨rowS (Lib.decDigits x0.toNat), strV_row _, rfl, ?_⟩
    repeat (first | (intro _) | (refine ⟨by omega, fun _ => ?_⟩))
    refine ⟨_, fmtI hL x1 (by omega) (by omega), ?_⟩
    rintro _ _ ⟨rfl, rfl⟩
    refine ⟨rowS (Lib.decDigits x1.toNat), strV_row _, rfl, ?_⟩
    repeat (first | (intro _) | (refine ⟨by omega, fun _ => ?_⟩))
    refine ⟨_, fmtI hL x2 (by omega) (by omega), ?_⟩
    rintro _ _ ⟨rfl, rfl⟩
    refine ⟨rowS (Lib.decDigits x2.toNat), strV_row _, rfl, ?_⟩
    repeat (first | (intro _) | (refine ⟨by omega, fun _ => ?_⟩))
    refine ⟨_, fmtI hL x3 (by omega) (by omega), ?_⟩
    rintro _ _ ⟨rfl, rfl⟩
    refine ⟨rowS (Lib.decDigits x3.toNat), strV_row _, rfl, ?_⟩
    repeat (first | (intro _) | (refine ⟨by omega, fun _ => ?_⟩))
    refine ⟨fun h => ?_, fun h => ?_⟩
    · exact none_eq (by rw [line13, if_neg (by omega)])
    · repeat (first | (intro _) | (refine ⟨by omega, fun _ => ?_⟩))
      refine tup_eq (s := (([107, 105, 99, 107] ++ [32]) ++ ((((Lib.decDigits x0.toNat ++ [47]) ++ Lib.decDigits x1.toNat) ++ [32]) ++ ((Lib.decDigits x2.toNat ++ [47]) ++ Lib.decDigits x3.toNat)))) ?_ ?_ rfl
      · repeat (first | exact Sd.row _ | (exact Sd.lit _ _ (lit_row _ _ _ rfl rfl)) | refine Sd.cat ?_ ?_)
      · rw [line13, if_pos (by omega)]
        try simp only [devS, List.append_assoc, List.cons_append, List.nil_append]
theorem pl14_meets (hL : Laid0 w0 n0) (x0 x1 x2 x3 x4 x5 : Int) (l : List UInt8) (v : V1) (h : Rg x0 x1 x2 x3 x4 x5 l) : Meets Tryd.prog 12 [movV 14 x0 x1 x2 x3 x4 x5 v] [keptHP n0 w0, sliB v l] fun x _ => x = lineV (lineM 14 x0 x1 x2 x3 x4 x5 l) := by
  obtain ⟨g0, g1, g2, g3, g4, g5, gl, w0', w1', w2', w3', l0, l1, l2, l3, l4, l5, l6⟩ := h.facts
  have := Meets.of_runE (C := cxL) (cnt := { i := 7, a := 1, p := 1, v := 1 }) (ρ := { iv := [x0, x1, x2, x3, x4, x5, (l.length : Int)], av := [bytesF l], vv := [v], pv := [keptHP n0 w0] }) okT okFT okM Tryd.func12 (by constructor <;> rfl) (Post := fun x _ => x = lineV (lineM 14 x0 x1 x2 x3 x4 x5 l))
    (args := [.agg [.int .u8 (.lit 14), .int .u8 (.var 0), .int .u8 (.var 1), .int .u8 (.var 2), .int .u8 (.var 3), .int .i64 (.var 4), .int .u64 (.var 5), .vv 0]]) (hp := [.abs 0, .sli false 0 5 1 (.var 6) [⟨.int .u8, 1, .avar 0⟩]]) run_pl14 (vc_pl14 Tryd.prog (fun x _ => x = lineV (lineM 14 x0 x1 x2 x3 x4 x5 l)) x0 x1 x2 x3 x4 x5 l.length (bytesF l) v (keptHP n0 w0) (fun _ => LC.none)) ?_ (Sc.pure_ok cxL rfl)
  · exact this
  · unfold st_pl14
    rw [w0', w1']
    repeat (first | (intro _) | (refine ⟨by omega, fun _ => ?_⟩))
    refine ⟨_, fmtI hL x0 (by omega) (by omega), ?_⟩
    rintro _ _ ⟨rfl, rfl⟩
    refine ⟨rowS (Lib.decDigits x0.toNat), strV_row _, rfl, ?_⟩
    repeat (first | (intro _) | (refine ⟨by omega, fun _ => ?_⟩))
    refine ⟨_, fmtI hL x1 (by omega) (by omega), ?_⟩
    rintro _ _ ⟨rfl, rfl⟩
    refine ⟨rowS (Lib.decDigits x1.toNat), strV_row _, rfl, ?_⟩
    repeat (first | (intro _) | (refine ⟨by omega, fun _ => ?_⟩))
    refine ⟨fun h => ?_, fun h => ?_⟩
    · exact none_eq (by rw [line14, if_neg (by omega)])
    · repeat (first | (intro _) | (refine ⟨by omega, fun _ => ?_⟩))
      refine tup_eq (s := (([108, 101, 97, 118, 101] ++ [32]) ++ ((Lib.decDigits x0.toNat ++ [47]) ++ Lib.decDigits x1.toNat))) ?_ ?_ rfl
      · repeat (first | exact Sd.row _ | (exact Sd.lit _ _ (lit_row _ _ _ rfl rfl)) | refine Sd.cat ?_ ?_)
      · rw [line14, if_pos (by omega)]
        try simp only [devS, List.append_assoc, List.cons_append, List.nil_append]
theorem pl15_meets (hL : Laid0 w0 n0) (x0 x1 x2 x3 x4 x5 : Int) (l : List UInt8) (v : V1) (h : Rg x0 x1 x2 x3 x4 x5 l) : Meets Tryd.prog 12 [movV 15 x0 x1 x2 x3 x4 x5 v] [keptHP n0 w0, sliB v l] fun x _ => x = lineV (lineM 15 x0 x1 x2 x3 x4 x5 l) := by
  obtain ⟨g0, g1, g2, g3, g4, g5, gl, w0', w1', w2', w3', l0, l1, l2, l3, l4, l5, l6⟩ := h.facts
  have := Meets.of_runE (C := cxL) (cnt := { i := 7, a := 1, p := 1, v := 1 }) (ρ := { iv := [x0, x1, x2, x3, x4, x5, (l.length : Int)], av := [bytesF l], vv := [v], pv := [keptHP n0 w0] }) okT okFT okM Tryd.func12 (by constructor <;> rfl) (Post := fun x _ => x = lineV (lineM 15 x0 x1 x2 x3 x4 x5 l))
    (args := [.agg [.int .u8 (.lit 15), .int .u8 (.var 0), .int .u8 (.var 1), .int .u8 (.var 2), .int .u8 (.var 3), .int .i64 (.var 4), .int .u64 (.var 5), .vv 0]]) (hp := [.abs 0, .sli false 0 5 1 (.var 6) [⟨.int .u8, 1, .avar 0⟩]]) run_pl15 (vc_pl15 Tryd.prog (fun x _ => x = lineV (lineM 15 x0 x1 x2 x3 x4 x5 l)) x0 x1 x2 x3 x4 x5 l.length (bytesF l) v (keptHP n0 w0) (fun _ => LC.none)) ?_ (Sc.pure_ok cxL rfl)
  · exact this
  · unfold st_pl15
    rw [w0', w1']
    repeat (first | (intro _) | (refine ⟨by omega, fun _ => ?_⟩))
    refine ⟨_, fmtI hL x0 (by omega) (by omega), ?_⟩
    rintro _ _ ⟨rfl, rfl⟩
    refine ⟨rowS (Lib.decDigits x0.toNat), strV_row _, rfl, ?_⟩
    repeat (first | (intro _) | (refine ⟨by omega, fun _ => ?_⟩))
    refine ⟨_, fmtI hL x1 (by omega) (by omega), ?_⟩
    rintro _ _ ⟨rfl, rfl⟩
    refine ⟨rowS (Lib.decDigits x1.toNat), strV_row _, rfl, ?_⟩
    repeat (first | (intro _) | (refine ⟨by omega, fun _ => ?_⟩))
    refine ⟨_, hex_meets v l gl, ?_⟩
    rintro _ _ ⟨rfl, rfl⟩
    refine ⟨rowS (hexS l), strV_row _, rfl, ?_⟩
    repeat (first | (intro _) | (refine ⟨by omega, fun _ => ?_⟩))
    refine ⟨fun h => ?_, fun h => ?_⟩
    · exact none_eq (by rw [line15, if_neg (by omega)])
    · repeat (first | (intro _) | (refine ⟨by omega, fun _ => ?_⟩))
      refine tup_eq (s := (([102, 114, 97, 109, 101] ++ [32]) ++ ((((Lib.decDigits x0.toNat ++ [47]) ++ Lib.decDigits x1.toNat) ++ [32]) ++ hexS l))) ?_ ?_ rfl
      · repeat (first | exact Sd.row _ | (exact Sd.lit _ _ (lit_row _ _ _ rfl rfl)) | refine Sd.cat ?_ ?_)
      · rw [line15, if_pos (by omega)]
        try simp only [devS, List.append_assoc, List.cons_append, List.nil_append]
end Go.RX.Sp
