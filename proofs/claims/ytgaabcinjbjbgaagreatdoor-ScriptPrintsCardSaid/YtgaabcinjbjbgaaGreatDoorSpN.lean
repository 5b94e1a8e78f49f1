/- Printing of moves: the document's lines; printed by a program of ours (wip/tools/gen_sp.py). -/
import Derived.Test.YtgaabcinjbjbgaaGreatDoorSpM
import Derived.Test.YtgaabcinjbjbgaaGreatDoorSpG
namespace Go.RX.Sp
open Go Go.RX Go.Proofs Go.RX.Ln Go.RX.Lp Go.RX.Lf Go.RowKit
theorem rl1_meets (x0 x1 x2 x3 x4 x5 : Int) (l : List UInt8) (v : V1) (h : Rg x0 x1 x2 x3 x4 x5 l) : Meets Tryz.prog 15 [movV 1 x0 x1 x2 x3 x4 x5 v] [sliB v l] fun x _ => x = strV (lineM 1 x0 x1 x2 x3 x4 x5 l) := by
  obtain ⟨g0, g1, g2, g3, g4, g5, gl⟩ := h
  have w0' := IntWalk.u64_in x0 (by omega)
  have w1' := IntWalk.u64_in x1 (by omega)
  have w2' := IntWalk.u64_in x2 (by omega)
  have w3' := IntWalk.u64_in x3 (by omega)
  have l0 := lenD x0 (by omega)
  have l1 := lenD x1 (by omega)
  have l2 := lenD x2 (by omega)
  have l3 := lenD x3 (by omega)
  have l4 := lenI x4 g4
  have l5 := lenD x5 (by omega)
  have l6 := lenH l gl
  have := Meets.of_runE (C := cxR1) (cnt := { i := 7, a := 1, v := 1 }) (ρ := { iv := [x0, x1, x2, x3, x4, x5, (l.length : Int)], av := [bytesF l], vv := [v] }) okT okFT okM Tryz.func15 (by constructor <;> rfl) (Post := fun x _ => x = strV (lineM 1 x0 x1 x2 x3 x4 x5 l))
    (args := [.agg [.int .u8 (.lit 1), .int .u8 (.var 0), .int .u8 (.var 1), .int .u8 (.var 2), .int .u8 (.var 3), .int .i64 (.var 4), .int .u64 (.var 5), .vv 0]]) (hp := [.sli false 0 5 1 (.var 6) [⟨.int .u8, 1, .avar 0⟩]]) run_rl1 (vc_rl1 Tryz.prog (fun x _ => x = strV (lineM 1 x0 x1 x2 x3 x4 x5 l)) x0 x1 x2 x3 x4 x5 l.length (bytesF l) v (fun _ => LC.none)) ?_ (Sc.pure_ok cxR1 rfl)
  · exact this
  · unfold st_rl1
    rw [w0', w1']
    repeat (first | (intro _) | (refine ⟨by omega, fun _ => ?_⟩))
    refine ⟨fun h0 => ?_, fun h0 => none_str (by rw [line1, if_neg (by omega)])⟩
    repeat (first | (intro _) | (refine ⟨by omega, fun _ => ?_⟩))
    refine ⟨fun h1 => ?_, fun h1 => none_str (by rw [line1, if_neg (by omega)])⟩
    repeat (first | (intro _) | (refine ⟨by omega, fun _ => ?_⟩))
    refine ⟨fun h2 => none_str (by rw [line1, if_neg (by omega)]), fun h2 => ?_⟩
    repeat (first | (intro _) | (refine ⟨by omega, fun _ => ?_⟩))
    repeat (first | (intro _) | (refine ⟨by omega, fun _ => ?_⟩))
    refine ⟨_, rdigits_meets x0.toNat x0 (by omega) (by omega) rfl, ?_⟩
    rintro _ _ ⟨rfl, rfl⟩
    refine ⟨rowS (Lib.decDigits x0.toNat), strV_row _, rfl, ?_⟩
    repeat (first | (intro _) | (refine ⟨by omega, fun _ => ?_⟩))
    refine ⟨_, rdigits_meets x1.toNat x1 (by omega) (by omega) rfl, ?_⟩
    rintro _ _ ⟨rfl, rfl⟩
    refine ⟨rowS (Lib.decDigits x1.toNat), strV_row _, rfl, ?_⟩
    repeat (first | (intro _) | (refine ⟨by omega, fun _ => ?_⟩))
    refine ⟨_, whole_meets x4 g4.1 g4.2, ?_⟩
    rintro _ _ ⟨rfl, rfl⟩
    refine ⟨rowS (Lib.itoa x4), strV_row _, rfl, ?_⟩
    repeat (first | (intro _) | (refine ⟨by omega, fun _ => ?_⟩))
    refine str_eq (s := ((([100, 105, 97, 108, 32] ++ ((Lib.decDigits x0.toNat ++ [47]) ++ Lib.decDigits x1.toNat)) ++ [32]) ++ Lib.itoa x4)) ?_ ?_
    · repeat (first | exact Sd.row _ | (exact Sd.lit _ _ (lit_row _ _ _ rfl rfl)) | refine Sd.cat ?_ ?_)
    · rw [line1, if_pos (by omega)]
      try simp only [devS, List.append_assoc, List.cons_append, List.nil_append]
theorem rl2_meets (x0 x1 x2 x3 x4 x5 : Int) (l : List UInt8) (v : V1) (h : Rg x0 x1 x2 x3 x4 x5 l) : Meets Tryz.prog 15 [movV 2 x0 x1 x2 x3 x4 x5 v] [sliB v l] fun x _ => x = strV (lineM 2 x0 x1 x2 x3 x4 x5 l) := by
  obtain ⟨g0, g1, g2, g3, g4, g5, gl⟩ := h
  have w0' := IntWalk.u64_in x0 (by omega)
  have w1' := IntWalk.u64_in x1 (by omega)
  have w2' := IntWalk.u64_in x2 (by omega)
  have w3' := IntWalk.u64_in x3 (by omega)
  have l0 := lenD x0 (by omega)
  have l1 := lenD x1 (by omega)
  have l2 := lenD x2 (by omega)
  have l3 := lenD x3 (by omega)
  have l4 := lenI x4 g4
  have l5 := lenD x5 (by omega)
  have l6 := lenH l gl
  have := Meets.of_runE (C := cxR1) (cnt := { i := 7, a := 1, v := 1 }) (ρ := { iv := [x0, x1, x2, x3, x4, x5, (l.length : Int)], av := [bytesF l], vv := [v] }) okT okFT okM Tryz.func15 (by constructor <;> rfl) (Post := fun x _ => x = strV (lineM 2 x0 x1 x2 x3 x4 x5 l))
    (args := [.agg [.int .u8 (.lit 2), .int .u8 (.var 0), .int .u8 (.var 1), .int .u8 (.var 2), .int .u8 (.var 3), .int .i64 (.var 4), .int .u64 (.var 5), .vv 0]]) (hp := [.sli false 0 5 1 (.var 6) [⟨.int .u8, 1, .avar 0⟩]]) run_rl2 (vc_rl2 Tryz.prog (fun x _ => x = strV (lineM 2 x0 x1 x2 x3 x4 x5 l)) x0 x1 x2 x3 x4 x5 l.length (bytesF l) v (fun _ => LC.none)) ?_ (Sc.pure_ok cxR1 rfl)
  · exact this
  · unfold st_rl2
    rw [w0', w1']
    repeat (first | (intro _) | (refine ⟨by omega, fun _ => ?_⟩))
    refine ⟨fun h0 => ?_, fun h0 => none_str (by rw [line2, if_neg (by omega)])⟩
    repeat (first | (intro _) | (refine ⟨by omega, fun _ => ?_⟩))
    refine ⟨fun h1 => ?_, fun h1 => none_str (by rw [line2, if_neg (by omega)])⟩
    repeat (first | (intro _) | (refine ⟨by omega, fun _ => ?_⟩))
    refine ⟨fun h2 => ?_, fun h2 => none_str (by rw [line2, if_neg (by omega)])⟩
    repeat (first | (intro _) | (refine ⟨by omega, fun _ => ?_⟩))
    refine ⟨fun h3 => none_str (by rw [line2, if_neg (by omega)]), fun h3 => ?_⟩
    repeat (first | (intro _) | (refine ⟨by omega, fun _ => ?_⟩))
    repeat (first | (intro _) | (refine ⟨by omega, fun _ => ?_⟩))
    refine ⟨_, rdigits_meets x0.toNat x0 (by omega) (by omega) rfl, ?_⟩
    rintro _ _ ⟨rfl, rfl⟩
    refine ⟨rowS (Lib.decDigits x0.toNat), strV_row _, rfl, ?_⟩
    repeat (first | (intro _) | (refine ⟨by omega, fun _ => ?_⟩))
    refine ⟨_, rdigits_meets x1.toNat x1 (by omega) (by omega) rfl, ?_⟩
    rintro _ _ ⟨rfl, rfl⟩
    refine ⟨rowS (Lib.decDigits x1.toNat), strV_row _, rfl, ?_⟩
    repeat (first | (intro _) | (refine ⟨by omega, fun _ => ?_⟩))
    refine str_eq (s := ([97, 110, 115, 119, 101, 114, 32] ++ ((Lib.decDigits x0.toNat ++ [47]) ++ Lib.decDigits x1.toNat))) ?_ ?_
    · repeat (first | exact Sd.row _ | (exact Sd.lit _ _ (lit_row _ _ _ rfl rfl)) | refine Sd.cat ?_ ?_)
    · rw [line2, if_pos (by omega)]
      try simp only [devS, List.append_assoc, List.cons_append, List.nil_append]
theorem rl3_meets (x0 x1 x2 x3 x4 x5 : Int) (l : List UInt8) (v : V1) (h : Rg x0 x1 x2 x3 x4 x5 l) : Meets Tryz.prog 15 [movV 3 x0 x1 x2 x3 x4 x5 v] [sliB v l] fun x _ => x = strV (lineM 3 x0 x1 x2 x3 x4 x5 l) := by
  obtain ⟨g0, g1, g2, g3, g4, g5, gl⟩ := h
  have w0' := IntWalk.u64_in x0 (by omega)
  have w1' := IntWalk.u64_in x1 (by omega)
  have w2' := IntWalk.u64_in x2 (by omega)
  have w3' := IntWalk.u64_in x3 (by omega)
  have l0 := lenD x0 (by omega)
  have l1 := lenD x1 (by omega)
  have l2 := lenD x2 (by omega)
  have l3 := lenD x3 (by omega)
  have l4 := lenI x4 g4
  have l5 := lenD x5 (by omega)
  have l6 := lenH l gl
  have := Meets.of_runE (C := cxR1) (cnt := { i := 7, a := 1, v := 1 }) (ρ := { iv := [x0, x1, x2, x3, x4, x5, (l.length : Int)], av := [bytesF l], vv := [v] }) okT okFT okM Tryz.func15 (by constructor <;> rfl) (Post := fun x _ => x = strV (lineM 3 x0 x1 x2 x3 x4 x5 l))
    (args := [.agg [.int .u8 (.lit 3), .int .u8 (.var 0), .int .u8 (.var 1), .int .u8 (.var 2), .int .u8 (.var 3), .int .i64 (.var 4), .int .u64 (.var 5), .vv 0]]) (hp := [.sli false 0 5 1 (.var 6) [⟨.int .u8, 1, .avar 0⟩]]) run_rl3 (vc_rl3 Tryz.prog (fun x _ => x = strV (lineM 3 x0 x1 x2 x3 x4 x5 l)) x0 x1 x2 x3 x4 x5 l.length (bytesF l) v (fun _ => LC.none)) ?_ (Sc.pure_ok cxR1 rfl)
  · exact this
  · unfold st_rl3
    rw [w0', w1']
    repeat (first | (intro _) | (refine ⟨by omega, fun _ => ?_⟩))
    refine ⟨fun h0 => ?_, fun h0 => none_str (by rw [line3, if_neg (by omega)])⟩
    repeat (first | (intro _) | (refine ⟨by omega, fun _ => ?_⟩))
    refine ⟨fun h1 => ?_, fun h1 => none_str (by rw [line3, if_neg (by omega)])⟩
    repeat (first | (intro _) | (refine ⟨by omega, fun _ => ?_⟩))
    refine ⟨fun h2 => ?_, fun h2 => none_str (by rw [line3, if_neg (by omega)])⟩
    repeat (first | (intro _) | (refine ⟨by omega, fun _ => ?_⟩))
    refine ⟨fun h3 => none_str (by rw [line3, if_neg (by omega)]), fun h3 => ?_⟩
    repeat (first | (intro _) | (refine ⟨by omega, fun _ => ?_⟩))
    repeat (first | (intro _) | (refine ⟨by omega, fun _ => ?_⟩))
    refine ⟨_, rdigits_meets x0.toNat x0 (by omega) (by omega) rfl, ?_⟩
    rintro _ _ ⟨rfl, rfl⟩
    refine ⟨rowS (Lib.decDigits x0.toNat), strV_row _, rfl, ?_⟩
    repeat (first | (intro _) | (refine ⟨by omega, fun _ => ?_⟩))
    refine ⟨_, rdigits_meets x1.toNat x1 (by omega) (by omega) rfl, ?_⟩
    rintro _ _ ⟨rfl, rfl⟩
    refine ⟨rowS (Lib.decDigits x1.toNat), strV_row _, rfl, ?_⟩
    repeat (first | (intro _) | (refine ⟨by omega, fun _ => ?_⟩))
    refine str_eq (s := ([100, 101, 99, 108, 105, 110, 101, 32] ++ ((Lib.decDigits x0.toNat ++ [47]) ++ Lib.decDigits x1.toNat))) ?_ ?_
    · repeat (first | exact Sd.row _ | (exact Sd.lit _ _ (lit_row _ _ _ rfl rfl)) | refine Sd.cat ?_ ?_)
    · rw [line3, if_pos (by omega)]
      try simp only [devS, List.append_assoc, List.cons_append, List.nil_append]
theorem rl4_meets (x0 x1 x2 x3 x4 x5 : Int) (l : List UInt8) (v : V1) (h : Rg x0 x1 x2 x3 x4 x5 l) : Meets Tryz.prog 15 [movV 4 x0 x1 x2 x3 x4 x5 v] [sliB v l] fun x _ => x = strV (lineM 4 x0 x1 x2 x3 x4 x5 l) := by
  obtain ⟨g0, g1, g2, g3, g4, g5, gl⟩ := h
  have w0' := IntWalk.u64_in x0 (by omega)
  have w1' := IntWalk.u64_in x1 (by omega)
  have w2' := IntWalk.u64_in x2 (by omega)
  have w3' := IntWalk.u64_in x3 (by omega)
  have l0 := lenD x0 (by omega)
  have l1 := lenD x1 (by omega)
  have l2 := lenD x2 (by omega)
  have l3 := lenD x3 (by omega)
  have l4 := lenI x4 g4
  have l5 := lenD x5 (by omega)
  have l6 := lenH l gl
  have := Meets.of_runE (C := cxR1) (cnt := { i := 7, a := 1, v := 1 }) (ρ := { iv := [x0, x1, x2, x3, x4, x5, (l.length : Int)], av := [bytesF l], vv := [v] }) okT okFT okM Tryz.func15 (by constructor <;> rfl) (Post := fun x _ => x = strV (lineM 4 x0 x1 x2 x3 x4 x5 l))
    (args := [.agg [.int .u8 (.lit 4), .int .u8 (.var 0), .int .u8 (.var 1), .int .u8 (.var 2), .int .u8 (.var 3), .int .i64 (.var 4), .int .u64 (.var 5), .vv 0]]) (hp := [.sli false 0 5 1 (.var 6) [⟨.int .u8, 1, .avar 0⟩]]) run_rl4 (vc_rl4 Tryz.prog (fun x _ => x = strV (lineM 4 x0 x1 x2 x3 x4 x5 l)) x0 x1 x2 x3 x4 x5 l.length (bytesF l) v (fun _ => LC.none)) ?_ (Sc.pure_ok cxR1 rfl)
  · exact this
  · unfold st_rl4
    rw [w0', w1']
    repeat (first | (intro _) | (refine ⟨by omega, fun _ => ?_⟩))
    refine ⟨fun h0 => ?_, fun h0 => none_str (by rw [line4, if_neg (by omega)])⟩
    repeat (first | (intro _) | (refine ⟨by omega, fun _ => ?_⟩))
    refine ⟨fun h1 => ?_, fun h1 => none_str (by rw [line4, if_neg (by omega)])⟩
    repeat (first | (intro _) | (refine ⟨by omega, fun _ => ?_⟩))
    refine ⟨fun h2 => ?_, fun h2 => none_str (by rw [line4, if_neg (by omega)])⟩
    repeat (first | (intro _) | (refine ⟨by omega, fun _ => ?_⟩))
    refine ⟨fun h3 => none_str (by rw [line4, if_neg (by omega)]), fun h3 => ?_⟩
    repeat (first | (intro _) | (refine ⟨by omega, fun _ => ?_⟩))
    repeat (first | (intro _) | (refine ⟨by omega, fun _ => ?_⟩))
    refine ⟨_, rdigits_meets x0.toNat x0 (by omega) (by omega) rfl, ?_⟩
    rintro _ _ ⟨rfl, rfl⟩
    refine ⟨rowS (Lib.decDigits x0.toNat), strV_row _, rfl, ?_⟩
    repeat (first | (intro _) | (refine ⟨by omega, fun _ => ?_⟩))
    refine ⟨_, rdigits_meets x1.toNat x1 (by omega) (by omega) rfl, ?_⟩
    rintro _ _ ⟨rfl, rfl⟩
    refine ⟨rowS (Lib.decDigits x1.toNat), strV_row _, rfl, ?_⟩
    repeat (first | (intro _) | (refine ⟨by omega, fun _ => ?_⟩))
    refine str_eq (s := ([104, 97, 110, 103, 32] ++ ((Lib.decDigits x0.toNat ++ [47]) ++ Lib.decDigits x1.toNat))) ?_ ?_
    · repeat (first | exact Sd.row _ | (exact Sd.lit _ _ (lit_row _ _ _ rfl rfl)) | refine Sd.cat ?_ ?_)
    · rw [line4, if_pos (by omega)]
      try simp only [devS, List.append_assoc, List.cons_append, List.nil_append]
theorem rl5_meets (x0 x1 x2 x3 x4 x5 : Int) (l : List UInt8) (v : V1) (h : Rg x0 x1 x2 x3 x4 x5 l) : Meets Tryz.prog 15 [movV 5 x0 x1 x2 x3 x4 x5 v] [sliB v l] fun x _ => x = strV (lineM 5 x0 x1 x2 x3 x4 x5 l) := by
  obtain ⟨g0, g1, g2, g3, g4, g5, gl⟩ := h
  have w0' := IntWalk.u64_in x0 (by omega)
  have w1' := IntWalk.u64_in x1 (by omega)
  have w2' := IntWalk.u64_in x2 (by omega)
  have w3' := IntWalk.u64_in x3 (by omega)
  have l0 := lenD x0 (by omega)
  have l1 := lenD x1 (by omega)
  have l2 := lenD x2 (by omega)
  have l3 := lenD x3 (by omega)
  have l4 := lenI x4 g4
  have l5 := lenD x5 (by omega)
  have l6 := lenH l gl
  have := Meets.of_runE (C := cxR1) (cnt := { i := 7, a := 1, v := 1 }) (ρ := { iv := [x0, x1, x2, x3, x4, x5, (l.length : Int)], av := [bytesF l], vv := [v] }) okT okFT okM Tryz.func15 (by constructor <;> rfl) (Post := fun x _ => x = strV (lineM 5 x0 x1 x2 x3 x4 x5 l))
    (args := [.agg [.int .u8 (.lit 5), .int .u8 (.var 0), .int .u8 (.var 1), .int .u8 (.var 2), .int .u8 (.var 3), .int .i64 (.var 4), .int .u64 (.var 5), .vv 0]]) (hp := [.sli false 0 5 1 (.var 6) [⟨.int .u8, 1, .avar 0⟩]]) run_rl5 (vc_rl5 Tryz.prog (fun x _ => x = strV (lineM 5 x0 x1 x2 x3 x4 x5 l)) x0 x1 x2 x3 x4 x5 l.length (bytesF l) v (fun _ => LC.none)) ?_ (Sc.pure_ok cxR1 rfl)
  · exact this
  · unfold st_rl5
    repeat (first | (intro _) | (refine ⟨by omega, fun _ => ?_⟩))
    refine ⟨fun h0 => ?_, fun h0 => none_str (by rw [line5, if_neg (by omega)])⟩
    repeat (first | (intro _) | (refine ⟨by omega, fun _ => ?_⟩))
    refine ⟨fun h1 => ?_, fun h1 => none_str (by rw [line5, if_neg (by omega)])⟩
    repeat (first | (intro _) | (refine ⟨by omega, fun _ => ?_⟩))
    refine ⟨fun h2 => ?_, fun h2 => none_str (by rw [line5, if_neg (by omega)])⟩
    repeat (first | (intro _) | (refine ⟨by omega, fun _ => ?_⟩))
    refine ⟨fun h3 => none_str (by rw [line5, if_neg (by omega)]), fun h3 => ?_⟩
    repeat (first | (intro _) | (refine ⟨by omega, fun _ => ?_⟩))
    repeat (first | (intro _) | (refine ⟨by omega, fun _ => ?_⟩))
    refine ⟨_, whole_meets x4 g4.1 g4.2, ?_⟩
    rintro _ _ ⟨rfl, rfl⟩
    refine ⟨rowS (Lib.itoa x4), strV_row _, rfl, ?_⟩
    repeat (first | (intro _) | (refine ⟨by omega, fun _ => ?_⟩))
    refine str_eq (s := ([116, 105, 99, 107, 32] ++ Lib.itoa x4)) ?_ ?_
    · repeat (first | exact Sd.row _ | (exact Sd.lit _ _ (lit_row _ _ _ rfl rfl)) | refine Sd.cat ?_ ?_)
    · rw [line5, if_pos (by omega)]
      try simp only [List.cons_append, List.nil_append]
theorem rl6_meets (x0 x1 x2 x3 x4 x5 : Int) (l : List UInt8) (v : V1) (h : Rg x0 x1 x2 x3 x4 x5 l) : Meets Tryz.prog 15 [movV 6 x0 x1 x2 x3 x4 x5 v] [sliB v l] fun x _ => x = strV (lineM 6 x0 x1 x2 x3 x4 x5 l) := by
  obtain ⟨g0, g1, g2, g3, g4, g5, gl⟩ := h
  have w0' := IntWalk.u64_in x0 (by omega)
  have w1' := IntWalk.u64_in x1 (by omega)
  have w2' := IntWalk.u64_in x2 (by omega)
  have w3' := IntWalk.u64_in x3 (by omega)
  have l0 := lenD x0 (by omega)
  have l1 := lenD x1 (by omega)
  have l2 := lenD x2 (by omega)
  have l3 := lenD x3 (by omega)
  have l4 := lenI x4 g4
  have l5 := lenD x5 (by omega)
  have l6 := lenH l gl
  have := Meets.of_runE (C := cxR1) (cnt := { i := 7, a := 1, v := 1 }) (ρ := { iv := [x0, x1, x2, x3, x4, x5, (l.length : Int)], av := [bytesF l], vv := [v] }) okT okFT okM Tryz.func15 (by constructor <;> rfl) (Post := fun x _ => x = strV (lineM 6 x0 x1 x2 x3 x4 x5 l))
    (args := [.agg [.int .u8 (.lit 6), .int .u8 (.var 0), .int .u8 (.var 1), .int .u8 (.var 2), .int .u8 (.var 3), .int .i64 (.var 4), .int .u64 (.var 5), .vv 0]]) (hp := [.sli false 0 5 1 (.var 6) [⟨.int .u8, 1, .avar 0⟩]]) run_rl6 (vc_rl6 Tryz.prog (fun x _ => x = strV (lineM 6 x0 x1 x2 x3 x4 x5 l)) x0 x1 x2 x3 x4 x5 l.length (bytesF l) v (fun _ => LC.none)) ?_ (Sc.pure_ok cxR1 rfl)
  · exact this
  · unfold st_rl6
    repeat (first | (intro _) | (refine ⟨by omega, fun _ => ?_⟩))
    refine ⟨fun h0 => ?_, fun h0 => none_str (by rw [line6, if_neg (by omega)])⟩
    repeat (first | (intro _) | (refine ⟨by omega, fun _ => ?_⟩))
    refine ⟨fun h1 => ?_, fun h1 => none_str (by rw [line6, if_neg (by omega)])⟩
    repeat (first | (intro _) | (refine ⟨by omega, fun _ => ?_⟩))
    refine ⟨fun h2 => ?_, fun h2 => none_str (by rw [line6, if_neg (by omega)])⟩
    repeat (first | (intro _) | (refine ⟨by omega, fun _ => ?_⟩))
    refine ⟨fun h3 => none_str (by rw [line6, if_neg (by omega)]), fun h3 => ?_⟩
    repeat (first | (intro _) | (refine ⟨by omega, fun _ => ?_⟩))
    repeat (first | (intro _) | (refine ⟨by omega, fun _ => ?_⟩))
    refine ⟨_, whole_meets x4 g4.1 g4.2, ?_⟩
    rintro _ _ ⟨rfl, rfl⟩
    refine ⟨rowS (Lib.itoa x4), strV_row _, rfl, ?_⟩
    repeat (first | (intro _) | (refine ⟨by omega, fun _ => ?_⟩))
    refine str_eq (s := ([100, 101, 108, 105, 118, 101, 114, 32] ++ Lib.itoa x4)) ?_ ?_
    · repeat (first | exact Sd.row _ | (exact Sd.lit _ _ (lit_row _ _ _ rfl rfl)) | refine Sd.cat ?_ ?_)
    · rw [line6, if_pos (by omega)]
      try simp only [List.cons_append, List.nil_append]
theorem rl7_meets (x0 x1 x2 x3 x4 x5 : Int) (l : List UInt8) (v : V1) (h : Rg x0 x1 x2 x3 x4 x5 l) : Meets Tryz.prog 15 [movV 7 x0 x1 x2 x3 x4 x5 v] [sliB v l] fun x _ => x = strV (lineM 7 x0 x1 x2 x3 x4 x5 l) := by
  obtain ⟨g0, g1, g2, g3, g4, g5, gl⟩ := h
  have w0' := IntWalk.u64_in x0 (by omega)
  have w1' := IntWalk.u64_in x1 (by omega)
  have w2' := IntWalk.u64_in x2 (by omega)
  have w3' := IntWalk.u64_in x3 (by omega)
  have l0 := lenD x0 (by omega)
  have l1 := lenD x1 (by omega)
  have l2 := lenD x2 (by omega)
  have l3 := lenD x3 (by omega)
  have l4 := lenI x4 g4
  have l5 := lenD x5 (by omega)
  have l6 := lenH l gl
  have := Meets.of_runE (C := cxR1) (cnt := { i := 7, a := 1, v := 1 }) (ρ := { iv := [x0, x1, x2, x3, x4, x5, (l.length : Int)], av := [bytesF l], vv := [v] }) okT okFT okM Tryz.func15 (by constructor <;> rfl) (Post := fun x _ => x = strV (lineM 7 x0 x1 x2 x3 x4 x5 l))
    (args := [.agg [.int .u8 (.lit 7), .int .u8 (.var 0), .int .u8 (.var 1), .int .u8 (.var 2), .int .u8 (.var 3), .int .i64 (.var 4), .int .u64 (.var 5), .vv 0]]) (hp := [.sli false 0 5 1 (.var 6) [⟨.int .u8, 1, .avar 0⟩]]) run_rl7 (vc_rl7 Tryz.prog (fun x _ => x = strV (lineM 7 x0 x1 x2 x3 x4 x5 l)) x0 x1 x2 x3 x4 x5 l.length (bytesF l) v (fun _ => LC.none)) ?_ (Sc.pure_ok cxR1 rfl)
  · exact this
  · unfold st_rl7
    repeat (first | (intro _) | (refine ⟨by omega, fun _ => ?_⟩))
    refine ⟨fun h0 => ?_, fun h0 => none_str (by rw [line7, if_neg (by omega)])⟩
    repeat (first | (intro _) | (refine ⟨by omega, fun _ => ?_⟩))
    refine ⟨fun h1 => ?_, fun h1 => none_str (by rw [line7, if_neg (by omega)])⟩
    repeat (first | (intro _) | (refine ⟨by omega, fun _ => ?_⟩))
    refine ⟨fun h2 => ?_, fun h2 => none_str (by rw [line7, if_neg (by omega)])⟩
    repeat (first | (intro _) | (refine ⟨by omega, fun _ => ?_⟩))
    refine ⟨fun h3 => none_str (by rw [line7, if_neg (by omega)]), fun h3 => ?_⟩
    repeat (first | (intro _) | (refine ⟨by omega, fun _ => ?_⟩))
    repeat (first | (intro _) | (refine ⟨by omega, fun _ => ?_⟩))
    refine ⟨_, whole_meets x4 g4.1 g4.2, ?_⟩
    rintro _ _ ⟨rfl, rfl⟩
    refine ⟨rowS (Lib.itoa x4), strV_row _, rfl, ?_⟩
    repeat (first | (intro _) | (refine ⟨by omega, fun _ => ?_⟩))
    refine str_eq (s := ([100, 114, 111, 112, 32] ++ Lib.itoa x4)) ?_ ?_
    · repeat (first | exact Sd.row _ | (exact Sd.lit _ _ (lit_row _ _ _ rfl rfl)) | refine Sd.cat ?_ ?_)
    · rw [line7, if_pos (by omega)]
      try simp only [List.cons_append, List.nil_append]
theorem rl8_meets (x0 x1 x2 x3 x4 x5 : Int) (l : List UInt8) (v : V1) (h : Rg x0 x1 x2 x3 x4 x5 l) : Meets Tryz.prog 15 [movV 8 x0 x1 x2 x3 x4 x5 v] [sliB v l] fun x _ => x = strV (lineM 8 x0 x1 x2 x3 x4 x5 l) := by
  obtain ⟨g0, g1, g2, g3, g4, g5, gl⟩ := h
  have w0' := IntWalk.u64_in x0 (by omega)
  have w1' := IntWalk.u64_in x1 (by omega)
  have w2' := IntWalk.u64_in x2 (by omega)
  have w3' := IntWalk.u64_in x3 (by omega)
  have l0 := lenD x0 (by omega)
  have l1 := lenD x1 (by omega)
  have l2 := lenD x2 (by omega)
  have l3 := lenD x3 (by omega)
  have l4 := lenI x4 g4
  have l5 := lenD x5 (by omega)
  have l6 := lenH l gl
  have := Meets.of_runE (C := cxR1) (cnt := { i := 7, a := 1, v := 1 }) (ρ := { iv := [x0, x1, x2, x3, x4, x5, (l.length : Int)], av := [bytesF l], vv := [v] }) okT okFT okM Tryz.func15 (by constructor <;> rfl) (Post := fun x _ => x = strV (lineM 8 x0 x1 x2 x3 x4 x5 l))
    (args := [.agg [.int .u8 (.lit 8), .int .u8 (.var 0), .int .u8 (.var 1), .int .u8 (.var 2), .int .u8 (.var 3), .int .i64 (.var 4), .int .u64 (.var 5), .vv 0]]) (hp := [.sli false 0 5 1 (.var 6) [⟨.int .u8, 1, .avar 0⟩]]) run_rl8 (vc_rl8 Tryz.prog (fun x _ => x = strV (lineM 8 x0 x1 x2 x3 x4 x5 l)) x0 x1 x2 x3 x4 x5 l.length (bytesF l) v (fun _ => LC.none)) ?_ (Sc.pure_ok cxR1 rfl)
  · exact this
  · unfold st_rl8
    repeat (first | (intro _) | (refine ⟨by omega, fun _ => ?_⟩))
    refine ⟨fun h0 => ?_, fun h0 => none_str (by rw [line8, if_neg (by omega)])⟩
    repeat (first | (intro _) | (refine ⟨by omega, fun _ => ?_⟩))
    refine ⟨fun h1 => ?_, fun h1 => none_str (by rw [line8, if_neg (by omega)])⟩
    repeat (first | (intro _) | (refine ⟨by omega, fun _ => ?_⟩))
    refine ⟨fun h2 => ?_, fun h2 => none_str (by rw [line8, if_neg (by omega)])⟩
    repeat (first | (intro _) | (refine ⟨by omega, fun _ => ?_⟩))
    refine ⟨fun h3 => none_str (by rw [line8, if_neg (by omega)]), fun h3 => ?_⟩
    repeat (first | (intro _) | (refine ⟨by omega, fun _ => ?_⟩))
    repeat (first | (intro _) | (refine ⟨by omega, fun _ => ?_⟩))
    refine ⟨_, whole_meets x4 g4.1 g4.2, ?_⟩
    rintro _ _ ⟨rfl, rfl⟩
    refine ⟨rowS (Lib.itoa x4), strV_row _, rfl, ?_⟩
    repeat (first | (intro _) | (refine ⟨by omega, fun _ => ?_⟩))
    refine str_eq (s := ([100, 111, 117, 98, 108, 101, 32] ++ Lib.itoa x4)) ?_ ?_
    · repeat (first | exact Sd.row _ | (exact Sd.lit _ _ (lit_row _ _ _ rfl rfl)) | refine Sd.cat ?_ ?_)
    · rw [line8, if_pos (by omega)]
      try simp only [List.cons_append, List.nil_append]
theorem rl9_meets (x0 x1 x2 x3 x4 x5 : Int) (l : List UInt8) (v : V1) (h : Rg x0 x1 x2 x3 x4 x5 l) : Meets Tryz.prog 15 [movV 9 x0 x1 x2 x3 x4 x5 v] [sliB v l] fun x _ => x = strV (lineM 9 x0 x1 x2 x3 x4 x5 l) := by
  obtain ⟨g0, g1, g2, g3, g4, g5, gl⟩ := h
  have w0' := IntWalk.u64_in x0 (by omega)
  have w1' := IntWalk.u64_in x1 (by omega)
  have w2' := IntWalk.u64_in x2 (by omega)
  have w3' := IntWalk.u64_in x3 (by omega)
  have l0 := lenD x0 (by omega)
  have l1 := lenD x1 (by omega)
  have l2 := lenD x2 (by omega)
  have l3 := lenD x3 (by omega)
  have l4 := lenI x4 g4
  have l5 := lenD x5 (by omega)
  have l6 := lenH l gl
  have := Meets.of_runE (C := cxR1) (cnt := { i := 7, a := 1, v := 1 }) (ρ := { iv := [x0, x1, x2, x3, x4, x5, (l.length : Int)], av := [bytesF l], vv := [v] }) okT okFT okM Tryz.func15 (by constructor <;> rfl) (Post := fun x _ => x = strV (lineM 9 x0 x1 x2 x3 x4 x5 l))
    (args := [.agg [.int .u8 (.lit 9), .int .u8 (.var 0), .int .u8 (.var 1), .int .u8 (.var 2), .int .u8 (.var 3), .int .i64 (.var 4), .int .u64 (.var 5), .vv 0]]) (hp := [.sli false 0 5 1 (.var 6) [⟨.int .u8, 1, .avar 0⟩]]) run_rl9 (vc_rl9 Tryz.prog (fun x _ => x = strV (lineM 9 x0 x1 x2 x3 x4 x5 l)) x0 x1 x2 x3 x4 x5 l.length (bytesF l) v (fun _ => LC.none)) ?_ (Sc.pure_ok cxR1 rfl)
  · exact this
  · unfold st_rl9
    repeat (first | (intro _) | (refine ⟨by omega, fun _ => ?_⟩))
    refine ⟨fun h0 => ?_, fun h0 => none_str (by rw [line9, if_neg (by omega)])⟩
    repeat (first | (intro _) | (refine ⟨by omega, fun _ => ?_⟩))
    refine ⟨fun h1 => ?_, fun h1 => none_str (by rw [line9, if_neg (by omega)])⟩
    repeat (first | (intro _) | (refine ⟨by omega, fun _ => ?_⟩))
    refine ⟨fun h2 => none_str (by rw [line9, if_neg (by omega)]), fun h2 => ?_⟩
    repeat (first | (intro _) | (refine ⟨by omega, fun _ => ?_⟩))
    repeat (first | (intro _) | (refine ⟨by omega, fun _ => ?_⟩))
    refine ⟨_, whole_meets x4 g4.1 g4.2, ?_⟩
    rintro _ _ ⟨rfl, rfl⟩
    refine ⟨rowS (Lib.itoa x4), strV_row _, rfl, ?_⟩
    repeat (first | (intro _) | (refine ⟨by omega, fun _ => ?_⟩))
    refine ⟨_, rdigits_meets x5.toNat x5 (by omega) (by omega) rfl, ?_⟩
    rintro _ _ ⟨rfl, rfl⟩
    refine ⟨rowS (Lib.decDigits x5.toNat), strV_row _, rfl, ?_⟩
    repeat (first | (intro _) | (refine ⟨by omega, fun _ => ?_⟩))
    refine str_eq (s := ((([116, 97, 109, 112, 101, 114, 32] ++ Lib.itoa x4) ++ [32]) ++ Lib.decDigits x5.toNat)) ?_ ?_
    · repeat (first | exact Sd.row _ | (exact Sd.lit _ _ (lit_row _ _ _ rfl rfl)) | refine Sd.cat ?_ ?_)
    · rw [line9, if_pos (by omega)]
      try simp only [List.append_assoc, List.cons_append, List.nil_append]
theorem rl10_meets (x0 x1 x2 x3 x4 x5 : Int) (l : List UInt8) (v : V1) (h : Rg x0 x1 x2 x3 x4 x5 l) : Meets Tryz.prog 15 [movV 10 x0 x1 x2 x3 x4 x5 v] [sliB v l] fun x _ => x = strV (lineM 10 x0 x1 x2 x3 x4 x5 l) := by
  obtain ⟨g0, g1, g2, g3, g4, g5, gl⟩ := h
  have w0' := IntWalk.u64_in x0 (by omega)
  have w1' := IntWalk.u64_in x1 (by omega)
  have w2' := IntWalk.u64_in x2 (by omega)
  have w3' := IntWalk.u64_in x3 (by omega)
  have l0 := lenD x0 (by omega)
  have l1 := lenD x1 (by omega)
  have l2 := lenD x2 (by omega)
  have l3 := lenD x3 (by omega)
  have l4 := lenI x4 g4
  have l5 := lenD x5 (by omega)
  have l6 := lenH l gl
  have := Meets.of_runE (C := cxR1) (cnt := { i := 7, a := 1, v := 1 }) (ρ := { iv := [x0, x1, x2, x3, x4, x5, (l.length : Int)], av := [bytesF l], vv := [v] }) okT okFT okM Tryz.func15 (by constructor <;> rfl) (Post := fun x _ => x = strV (lineM 10 x0 x1 x2 x3 x4 x5 l))
    (args := [.agg [.int .u8 (.lit 10), .int .u8 (.var 0), .int .u8 (.var 1), .int .u8 (.var 2), .int .u8 (.var 3), .int .i64 (.var 4), .int .u64 (.var 5), .vv 0]]) (hp := [.sli false 0 5 1 (.var 6) [⟨.int .u8, 1, .avar 0⟩]]) run_rl10 (vc_rl10 Tryz.prog (fun x _ => x = strV (lineM 10 x0 x1 x2 x3 x4 x5 l)) x0 x1 x2 x3 x4 x5 l.length (bytesF l) v (fun _ => LC.none)) ?_ (Sc.pure_ok cxR1 rfl)
  · exact this
  · unfold st_rl10
    rw [w0', w1']
    repeat (first | (intro _) | (refine ⟨by omega, fun _ => ?_⟩))
    refine ⟨fun h0 => ?_, fun h0 => none_str (by rw [line10, if_neg (by omega)])⟩
    repeat (first | (intro _) | (refine ⟨by omega, fun _ => ?_⟩))
    refine ⟨fun h1 => ?_, fun h1 => none_str (by rw [line10, if_neg (by omega)])⟩
    repeat (first | (intro _) | (refine ⟨by omega, fun _ => ?_⟩))
    refine ⟨fun h2 => ?_, fun h2 => none_str (by rw [line10, if_neg (by omega)])⟩
    repeat (first | (intro _) | (refine ⟨by omega, fun _ => ?_⟩))
    repeat (first | (intro _) | (refine ⟨by omega, fun _ => ?_⟩))
    refine ⟨_, rdigits_meets x0.toNat x0 (by omega) (by omega) rfl, ?_⟩
    rintro _ _ ⟨rfl, rfl⟩
    refine ⟨rowS (Lib.decDigits x0.toNat), strV_row _, rfl, ?_⟩
    repeat (first | (intro _) | (refine ⟨by omega, fun _ => ?_⟩))
    refine ⟨_, rdigits_meets x1.toNat x1 (by omega) (by omega) rfl, ?_⟩
    rintro _ _ ⟨rfl, rfl⟩
    refine ⟨rowS (Lib.decDigits x1.toNat), strV_row _, rfl, ?_⟩
    repeat (first | (intro _) | (refine ⟨by omega, fun _ => ?_⟩))
    refine ⟨_, rhex_meets v l gl, ?_⟩
    rintro _ _ ⟨rfl, rfl⟩
    refine ⟨rowS (hexS l), strV_row _, rfl, ?_⟩
    repeat (first | (intro _) | (refine ⟨by omega, fun _ => ?_⟩))
    refine str_eq (s := ((([105, 110, 106, 101, 99, 116, 32] ++ ((Lib.decDigits x0.toNat ++ [47]) ++ Lib.decDigits x1.toNat)) ++ [32]) ++ hexS l)) ?_ ?_
    · repeat (first | exact Sd.row _ | (exact Sd.lit _ _ (lit_row _ _ _ rfl rfl)) | refine Sd.cat ?_ ?_)
    · rw [line10, if_pos (by omega)]
      try simp only [devS, List.append_assoc, List.cons_append, List.nil_append]
theorem rl11_meets (x0 x1 x2 x3 x4 x5 : Int) (l : List UInt8) (v : V1) (h : Rg x0 x1 x2 x3 x4 x5 l) : Meets Tryz.prog 15 [movV 11 x0 x1 x2 x3 x4 x5 v] [sliB v l] fun x _ => x = strV (lineM 11 x0 x1 x2 x3 x4 x5 l) := by
  obtain ⟨g0, g1, g2, g3, g4, g5, gl⟩ := h
  have w0' := IntWalk.u64_in x0 (by omega)
  have w1' := IntWalk.u64_in x1 (by omega)
  have w2' := IntWalk.u64_in x2 (by omega)
  have w3' := IntWalk.u64_in x3 (by omega)
  have l0 := lenD x0 (by omega)
  have l1 := lenD x1 (by omega)
  have l2 := lenD x2 (by omega)
  have l3 := lenD x3 (by omega)
  have l4 := lenI x4 g4
  have l5 := lenD x5 (by omega)
  have l6 := lenH l gl
  have := Meets.of_runE (C := cxR1) (cnt := { i := 7, a := 1, v := 1 }) (ρ := { iv := [x0, x1, x2, x3, x4, x5, (l.length : Int)], av := [bytesF l], vv := [v] }) okT okFT okM Tryz.func15 (by constructor <;> rfl) (Post := fun x _ => x = strV (lineM 11 x0 x1 x2 x3 x4 x5 l))
    (args := [.agg [.int .u8 (.lit 11), .int .u8 (.var 0), .int .u8 (.var 1), .int .u8 (.var 2), .int .u8 (.var 3), .int .i64 (.var 4), .int .u64 (.var 5), .vv 0]]) (hp := [.sli false 0 5 1 (.var 6) [⟨.int .u8, 1, .avar 0⟩]]) run_rl11 (vc_rl11 Tryz.prog (fun x _ => x = strV (lineM 11 x0 x1 x2 x3 x4 x5 l)) x0 x1 x2 x3 x4 x5 l.length (bytesF l) v (fun _ => LC.none)) ?_ (Sc.pure_ok cxR1 rfl)
  · exact this
  · unfold st_rl11
    rw [w0', w1']
    repeat (first | (intro _) | (refine ⟨by omega, fun _ => ?_⟩))
    refine ⟨fun h0 => ?_, fun h0 => none_str (by rw [line11, if_neg (by omega)])⟩
    repeat (first | (intro _) | (refine ⟨by omega, fun _ => ?_⟩))
    refine ⟨fun h1 => ?_, fun h1 => none_str (by rw [line11, if_neg (by omega)])⟩
    repeat (first | (intro _) | (refine ⟨by omega, fun _ => ?_⟩))
    refine ⟨fun h2 => ?_, fun h2 => none_str (by rw [line11, if_neg (by omega)])⟩
    repeat (first | (intro _) | (refine ⟨by omega, fun _ => ?_⟩))
    refine ⟨fun h3 => none_str (by rw [line11, if_neg (by omega)]), fun h3 => ?_⟩
    repeat (first | (intro _) | (refine ⟨by omega, fun _ => ?_⟩))
    repeat (first | (intro _) | (refine ⟨by omega, fun _ => ?_⟩))
    refine ⟨_, rdigits_meets x0.toNat x0 (by omega) (by omega) rfl, ?_⟩
    rintro _ _ ⟨rfl, rfl⟩
    refine ⟨rowS (Lib.decDigits x0.toNat), strV_row _, rfl, ?_⟩
    repeat (first | (intro _) | (refine ⟨by omega, fun _ => ?_⟩))
    refine ⟨_, rdigits_meets x1.toNat x1 (by omega) (by omega) rfl, ?_⟩
    rintro _ _ ⟨rfl, rfl⟩
    refine ⟨rowS (Lib.decDigits x1.toNat), strV_row _, rfl, ?_⟩
    repeat (first | (intro _) | (refine ⟨by omega, fun _ => ?_⟩))
    refine str_eq (s := ([99, 114, 101, 97, 116, 101, 32] ++ ((Lib.decDigits x0.toNat ++ [47]) ++ Lib.decDigits x1.toNat))) ?_ ?_
    · repeat (first | exact Sd.row _ | (exact Sd.lit _ _ (lit_row _ _ _ rfl rfl)) | refine Sd.cat ?_ ?_)
    · rw [line11, if_pos (by omega)]
      try simp only [devS, List.append_assoc, List.cons_append, List.nil_append]
theorem rl12_meets (x0 x1 x2 x3 x4 x5 : Int) (l : List UInt8) (v : V1) (h : Rg x0 x1 x2 x3 x4 x5 l) : Meets Tryz.prog 15 [movV 12 x0 x1 x2 x3 x4 x5 v] [sliB v l] fun x _ => x = strV (lineM 12 x0 x1 x2 x3 x4 x5 l) := by
  obtain ⟨g0, g1, g2, g3, g4, g5, gl⟩ := h
  have w0' := IntWalk.u64_in x0 (by omega)
  have w1' := IntWalk.u64_in x1 (by omega)
  have w2' := IntWalk.u64_in x2 (by omega)
  have w3' := IntWalk.u64_in x3 (by omega)
  have l0 := lenD x0 (by omega)
  have l1 := lenD x1 (by omega)
  have l2 := lenD x2 (by omega)
  have l3 := lenD x3 (by omega)
  have l4 := lenI x4 g4
  have l5 := lenD x5 (by omega)
  have l6 := lenH l gl
  have := Meets.of_runE (C := cxR1) (cnt := { i := 7, a := 1, v := 1 }) (ρ := { iv := [x0, x1, x2, x3, x4, x5, (l.length : Int)], av := [bytesF l], vv := [v] }) okT okFT okM Tryz.func15 (by constructor <;> rfl) (Post := fun x _ => x = strV (lineM 12 x0 x1 x2 x3 x4 x5 l))
    (args := [.agg [.int .u8 (.lit 12), .int .u8 (.var 0), .int .u8 (.var 1), .int .u8 (.var 2), .int .u8 (.var 3), .int .i64 (.var 4), .int .u64 (.var 5), .vv 0]]) (hp := [.sli false 0 5 1 (.var 6) [⟨.int .u8, 1, .avar 0⟩]]) run_rl12 (vc_rl12 Tryz.prog (fun x _ => x = strV (lineM 12 x0 x1 x2 x3 x4 x5 l)) x0 x1 x2 x3 x4 x5 l.length (bytesF l) v (fun _ => LC.none)) ?_ (Sc.pure_ok cxR1 rfl)
  · exact this
  · unfold st_rl12
    rw [w0', w1', w2', w3']
    repeat (first | (intro _) | (refine ⟨by omega, fun _ => ?_⟩))
    refine ⟨fun h0 => ?_, fun h0 => none_str (by rw [line12, if_neg (by omega)])⟩
    repeat (first | (intro _) | (refine ⟨by omega, fun _ => ?_⟩))
    refine ⟨fun h1 => ?_, fun h1 => none_str (by rw [line12, if_neg (by omega)])⟩
    repeat (first | (intro _) | (refine ⟨by omega, fun _ => ?_⟩))
    refine ⟨fun h2 => none_str (by rw [line12, if_neg (by omega)]), fun h2 => ?_⟩
    repeat (first | (intro _) | (refine ⟨by omega, fun _ => ?_⟩))
    repeat (first | (intro _) | (refine ⟨by omega, fun _ => ?_⟩))
    refine ⟨_, rdigits_meets x0.toNat x0 (by omega) (by omega) rfl, ?_⟩
    rintro _ _ ⟨rfl, rfl⟩
    refine ⟨rowS (Lib.decDigits x0.toNat), strV_row _, rfl, ?_⟩
    repeat (first | (intro _) | (refine ⟨by omega, fun _ => ?_⟩))
    refine ⟨_, rdigits_meets x1.toNat x1 (by omega) (by omega) rfl, ?_⟩
    rintro _ _ ⟨rfl, rfl⟩
    refine ⟨rowS (Lib.decDigits x1.toNat), strV_row _, rfl, ?_⟩
    repeat (first | (intro _) | (refine ⟨by omega, fun _ => ?_⟩))
    refine ⟨_, rdigits_meets x2.toNat x2 (by omega) (by omega) rfl, ?_⟩
    rintro _ _ ⟨rfl, rfl⟩
    refine ⟨rowS (Lib.decDigits x2.toNat), strV_row _, rfl, ?_⟩
    repeat (first | (intro _) | (refine ⟨by omega, fun _ => ?_⟩))
    refine ⟨_, rdigits_meets x3.toNat x3 (by omega) (by omega) rfl, ?_⟩
    rintro _ _ ⟨rfl, rfl⟩
    refine ⟨rowS (Lib.decDigits x3.toNat), strV_row _, rfl, ?_⟩
    repeat (first | (intro _) | (refine ⟨by omega, fun _ => ?_⟩))
    refine str_eq (s := ((([97, 100, 100, 32] ++ ((Lib.decDigits x0.toNat ++ [47]) ++ Lib.decDigits x1.toNat)) ++ [32]) ++ ((Lib.decDigits x2.toNat ++ [47]) ++ Lib.decDigits x3.toNat))) ?_ ?_
    · repeat (first | exact Sd.row _ | (exact Sd.lit _ _ (lit_row _ _ _ rfl rfl)) | refine Sd.cat ?_ ?_)
    · rw [line12, if_pos (by omega)]
      try simp only [devS, List.append_assoc, List.cons_append, List.nil_append]
theorem rl13_meets (x0 x1 x2 x3 x4 x5 : Int) (l : List UInt8) (v : V1) (h : Rg x0 x1 x2 x3 x4 x5 l) : Meets Tryz.prog 15 [movV 13 x0 x1 x2 x3 x4 x5 v] [sliB v l] fun x _ => x = strV (lineM 13 x0 x1 x2 x3 x4 x5 l) := by
  obtain ⟨g0, g1, g2, g3, g4, g5, gl⟩ := h
  have w0' := IntWalk.u64_in x0 (by omega)
  have w1' := IntWalk.u64_in x1 (by omega)
  have w2' := IntWalk.u64_in x2 (by omega)
  have w3' := IntWalk.u64_in x3 (by omega)
  have l0 := lenD x0 (by omega)
  have l1 := lenD x1 (by omega)
  have l2 := lenD x2 (by omega)
  have l3 := lenD x3 (by omega)
  have l4 := lenI x4 g4
  have l5 := lenD x5 (by omega)
  have l6 := lenH l gl
  have := Meets.of_runE (C := cxR1) (cnt := { i := 7, a := 1, v := 1 }) (ρ := { iv := [x0, x1, x2, x3, x4, x5, (l.length : Int)], av := [bytesF l], vv := [v] }) okT okFT okM Tryz.func15 (by constructor <;> rfl) (Post := fun x _ => x = strV (lineM 13 x0 x1 x2 x3 x4 x5 l))
    (args := [.agg [.int .u8 (.lit 13), .int .u8 (.var 0), .int .u8 (.var 1), .int .u8 (.var 2), .int .u8 (.var 3), .int .i64 (.var 4), .int .u64 (.var 5), .vv 0]]) (hp := [.sli false 0 5 1 (.var 6) [⟨.int .u8, 1, .avar 0⟩]]) run_rl13 (vc_rl13 Tryz.prog (fun x _ => x = strV (lineM 13 x0 x1 x2 x3 x4 x5 l)) x0 x1 x2 x3 x4 x5 l.length (bytesF l) v (fun _ => LC.none)) ?_ (Sc.pure_ok cxR1 rfl)
  · exact this
  · unfold st_rl13
    rw [w0', w1', w2', w3']
    repeat (first | (intro _) | (refine ⟨by omega, fun _ => ?_⟩))
    refine ⟨fun h0 => ?_, fun h0 => none_str (by rw [line13, if_neg (by omega)])⟩
    repeat (first | (intro _) | (refine ⟨by omega, fun _ => ?_⟩))
    refine ⟨fun h1 => ?_, fun h1 => none_str (by rw [line13, if_neg (by omega)])⟩
    repeat (first | (intro _) | (refine ⟨by omega, fun _ => ?_⟩))
    refine ⟨fun h2 => none_str (by rw [line13, if_neg (by omega)]), fun h2 => ?_⟩
    repeat (first | (intro _) | (refine ⟨by omega, fun _ => ?_⟩))
    repeat (first | (intro _) | (refine ⟨by omega, fun _ => ?_⟩))
    refine ⟨_, rdigits_meets x0.toNat x0 (by omega) (by omega) rfl, ?_⟩
    rintro _ _ ⟨rfl, rfl⟩
    refine ⟨rowS (Lib.decDigits x0.toNat), strV_row _, rfl, ?_⟩
    repeat (first | (intro _) | (refine ⟨by omega, fun _ => ?_⟩))
    refine ⟨_, rdigits_meets x1.toNat x1 (by omega) (by omega) rfl, ?_⟩
    rintro _ _ ⟨rfl, rfl⟩
    refine ⟨rowS (Lib.decDigits x1.toNat), strV_row _, rfl, ?_⟩
    repeat (first | (intro _) | (refine ⟨by omega, fun _ => ?_⟩))
    refine ⟨_, rdigits_meets x2.toNat x2 (by omega) (by omega) rfl, ?_⟩
    rintro _ _ ⟨rfl, rfl⟩
    refine ⟨rowS (Lib.decDigits x2.toNat), strV_row _, rfl, ?_⟩
    repeat (first | (intro _) | (refine ⟨by omega, fun _ => ?_⟩))
    refine ⟨_, rdigits_meets x3.toNat x3 (by omega) (by omega) rfl, ?_⟩
    rintro _ _ ⟨rfl, rfl⟩
    refine ⟨rowS (Lib.decDigits x3.toNat), strV_row _, rfl, ?_⟩
    repeat (first | (intro _) | (refine ⟨by omega, fun _ => ?_⟩))
    refine str_eq (s := ((([107, 105, 99, 107, 32] ++ ((Lib.decDigits x0.toNat ++ [47]) ++ Lib.decDigits x1.toNat)) ++ [32]) ++ ((Lib.decDigits x2.toNat ++ [47]) ++ Lib.decDigits x3.toNat))) ?_ ?_
    · repeat (first | exact Sd.row _ | (exact Sd.lit _ _ (lit_row _ _ _ rfl rfl)) | refine Sd.cat ?_ ?_)
    · rw [line13, if_pos (by omega)]
      try simp only [devS, List.append_assoc, List.cons_append, List.nil_append]
theorem rl14_meets (x0 x1 x2 x3 x4 x5 : Int) (l : List UInt8) (v : V1) (h : Rg x0 x1 x2 x3 x4 x5 l) : Meets Tryz.prog 15 [movV 14 x0 x1 x2 x3 x4 x5 v] [sliB v l] fun x _ => x = strV (lineM 14 x0 x1 x2 x3 x4 x5 l) := by
  obtain ⟨g0, g1, g2, g3, g4, g5, gl⟩ := h
  have w0' := IntWalk.u64_in x0 (by omega)
  have w1' := IntWalk.u64_in x1 (by omega)
  have w2' := IntWalk.u64_in x2 (by omega)
  have w3' := IntWalk.u64_in x3 (by omega)
  have l0 := lenD x0 (by omega)
  have l1 := lenD x1 (by omega)
  have l2 := lenD x2 (by omega)
  have l3 := lenD x3 (by omega)
  have l4 := lenI x4 g4
  have l5 := lenD x5 (by omega)
  have l6 := lenH l gl
  have := Meets.of_runE (C := cxR1) (cnt := { i := 7, a := 1, v := 1 }) (ρ := { iv := [x0, x1, x2, x3, x4, x5, (l.length : Int)], av := [bytesF l], vv := [v] }) okT okFT okM Tryz.func15 (by constructor <;> rfl) (Post := fun x _ => x = strV (lineM 14 x0 x1 x2 x3 x4 x5 l))
    (args := [.agg [.int .u8 (.lit 14), .int .u8 (.var 0), .int .u8 (.var 1), .int .u8 (.var 2), .int .u8 (.var 3), .int .i64 (.var 4), .int .u64 (.var 5), .vv 0]]) (hp := [.sli false 0 5 1 (.var 6) [⟨.int .u8, 1, .avar 0⟩]]) run_rl14 (vc_rl14 Tryz.prog (fun x _ => x = strV (lineM 14 x0 x1 x2 x3 x4 x5 l)) x0 x1 x2 x3 x4 x5 l.length (bytesF l) v (fun _ => LC.none)) ?_ (Sc.pure_ok cxR1 rfl)
  · exact this
  · unfold st_rl14
    rw [w0', w1']
    repeat (first | (intro _) | (refine ⟨by omega, fun _ => ?_⟩))
    refine ⟨fun h0 => ?_, fun h0 => none_str (by rw [line14, if_neg (by omega)])⟩
    repeat (first | (intro _) | (refine ⟨by omega, fun _ => ?_⟩))
    refine ⟨fun h1 => ?_, fun h1 => none_str (by rw [line14, if_neg (by omega)])⟩
    repeat (first | (intro _) | (refine ⟨by omega, fun _ => ?_⟩))
    refine ⟨fun h2 => ?_, fun h2 => none_str (by rw [line14, if_neg (by omega)])⟩
    repeat (first | (intro _) | (refine ⟨by omega, fun _ => ?_⟩))
    refine ⟨fun h3 => none_str (by rw [line14, if_neg (by omega)]), fun h3 => ?_⟩
    repeat (first | (intro _) | (refine ⟨by omega, fun _ => ?_⟩))
    repeat (first | (intro _) | (refine ⟨by omega, fun _ => ?_⟩))
    refine ⟨_, rdigits_meets x0.toNat x0 (by omega) (by omega) rfl, ?_⟩
    rintro _ _ ⟨rfl, rfl⟩
    refine ⟨rowS (Lib.decDigits x0.toNat), strV_row _, rfl, ?_⟩
    repeat (first | (intro _) | (refine ⟨by omega, fun _ => ?_⟩))
    refine ⟨_, rdigits_meets x1.toNat x1 (by omega) (by omega) rfl, ?_⟩
    rintro _ _ ⟨rfl, rfl⟩
    refine ⟨rowS (Lib.decDigits x1.toNat), strV_row _, rfl, ?_⟩
    repeat (first | (intro _) | (refine ⟨by omega, fun _ => ?_⟩))
    refine str_eq (s := ([108, 101, 97, 118, 101, 32] ++ ((Lib.decDigits x0.toNat ++ [47]) ++ Lib.decDigits x1.toNat))) ?_ ?_
    · repeat (first | exact Sd.row _ | (exact Sd.lit _ _ (lit_row _ _ _ rfl rfl)) | refine Sd.cat ?_ ?_)
    · rw [line14, if_pos (by omega)]
      try simp only [devS, List.append_assoc, List.cons_append, List.nil_append]
theorem rl15_meets (x0 x1 x2 x3 x4 x5 : Int) (l : List UInt8) (v : V1) (h : Rg x0 x1 x2 x3 x4 x5 l) : Meets Tryz.prog 15 [movV 15 x0 x1 x2 x3 x4 x5 v] [sliB v l] fun x _ => x = strV (lineM 15 x0 x1 x2 x3 x4 x5 l) := by
  obtain ⟨g0, g1, g2, g3, g4, g5, gl⟩ := h
  have w0' := IntWalk.u64_in x0 (by omega)
  have w1' := IntWalk.u64_in x1 (by omega)
  have w2' := IntWalk.u64_in x2 (by omega)
  have w3' := IntWalk.u64_in x3 (by omega)
  have l0 := lenD x0 (by omega)
  have l1 := lenD x1 (by omega)
  have l2 := lenD x2 (by omega)
  have l3 := lenD x3 (by omega)
  have l4 := lenI x4 g4
  have l5 := lenD x5 (by omega)
  have l6 := lenH l gl
  have := Meets.of_runE (C := cxR1) (cnt := { i := 7, a := 1, v := 1 }) (ρ := { iv := [x0, x1, x2, x3, x4, x5, (l.length : Int)], av := [bytesF l], vv := [v] }) okT okFT okM Tryz.func15 (by constructor <;> rfl) (Post := fun x _ => x = strV (lineM 15 x0 x1 x2 x3 x4 x5 l))
    (args := [.agg [.int .u8 (.lit 15), .int .u8 (.var 0), .int .u8 (.var 1), .int .u8 (.var 2), .int .u8 (.var 3), .int .i64 (.var 4), .int .u64 (.var 5), .vv 0]]) (hp := [.sli false 0 5 1 (.var 6) [⟨.int .u8, 1, .avar 0⟩]]) run_rl15 (vc_rl15 Tryz.prog (fun x _ => x = strV (lineM 15 x0 x1 x2 x3 x4 x5 l)) x0 x1 x2 x3 x4 x5 l.length (bytesF l) v (fun _ => LC.none)) ?_ (Sc.pure_ok cxR1 rfl)
  · exact this
  · unfold st_rl15
    rw [w0', w1']
    repeat (first | (intro _) | (refine ⟨by omega, fun _ => ?_⟩))
    refine ⟨fun h0 => ?_, fun h0 => none_str (by rw [line15, if_neg (by omega)])⟩
    repeat (first | (intro _) | (refine ⟨by omega, fun _ => ?_⟩))
    refine ⟨fun h1 => ?_, fun h1 => none_str (by rw [line15, if_neg (by omega)])⟩
    repeat (first | (intro _) | (refine ⟨by omega, fun _ => ?_⟩))
    refine ⟨fun h2 => ?_, fun h2 => none_str (by rw [line15, if_neg (by omega)])⟩
    repeat (first | (intro _) | (refine ⟨by omega, fun _ => ?_⟩))
    repeat (first | (intro _) | (refine ⟨by omega, fun _ => ?_⟩))
    refine ⟨_, rdigits_meets x0.toNat x0 (by omega) (by omega) rfl, ?_⟩
    rintro _ _ ⟨rfl, rfl⟩
    refine ⟨rowS (Lib.decDigits x0.toNat), strV_row _, rfl, ?_⟩
    repeat (first | (intro _) | (refine ⟨by omega, fun _ => ?_⟩))
    refine ⟨_, rdigits_meets x1.toNat x1 (by omega) (by omega) rfl, ?_⟩
    rintro _ _ ⟨rfl, rfl⟩
    refine ⟨rowS (Lib.decDigits x1.toNat), strV_row _, rfl, ?_⟩
    repeat (first | (intro _) | (refine ⟨by omega, fun _ => ?_⟩))
    refine ⟨_, rhex_meets v l gl, ?_⟩
    rintro _ _ ⟨rfl, rfl⟩
    refine ⟨rowS (hexS l), strV_row _, rfl, ?_⟩
    repeat (first | (intro _) | (refine ⟨by omega, fun _ => ?_⟩))
    refine str_eq (s := ((([102, 114, 97, 109, 101, 32] ++ ((Lib.decDigits x0.toNat ++ [47]) ++ Lib.decDigits x1.toNat)) ++ [32]) ++ hexS l)) ?_ ?_
    · repeat (first | exact Sd.row _ | (exact Sd.lit _ _ (lit_row _ _ _ rfl rfl)) | refine Sd.cat ?_ ?_)
    · rw [line15, if_pos (by omega)]
      try simp only [devS, List.append_assoc, List.cons_append, List.nil_append]
end Go.RX.Sp
