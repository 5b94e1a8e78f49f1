/- CallMedia: the law, by the contracts of both sides' Media; printed by a program of ours (wip/tools). -/
import Derived.Test.YtphemenngjkfbaaCmB
import Derived.Test.YtphemenngjkfbaaCmC
import Derived.Test.YtphemenngjkfbaaCmA

namespace Go.RX.Sh
open Go.RX Go.Proofs

theorem ref_text {A0 A1 A2 : Nat → Int} {I O N : Nat → Nat} {d0 d1 d2 d3 : Nat} (h0 : ∀ j, j < 16 → A0 j = (I j : Nat)) (h1 : ∀ j, j < 32 → A1 j = (O j : Nat)) (h2 : ∀ j, j < 32 → A2 j = (N j : Nat)) (j : Nat) (hj : j < 96) :
    (splF (splF (splF (updF (updF (updF (updF (updF (updF (updF (updF (updF (updF (updF (updF (updF (updF (updF (splF (updF (updF (updF (updF (updF (updF (updF (updF (updF (updF (updF (updF (fun _ => 0) 0 104) 1 97) 2 105) 3 108) 4 101) 5 114) 6 32) 7 109) 8 101) 9 100) 10 105) 11 97) 12 1 (updF (fun _ => 0) 0 (A0 0))) 13 (A0 1)) 14 (A0 2)) 15 (A0 3)) 16 (A0 4)) 17 (A0 5)) 18 (A0 6)) 19 (A0 7)) 20 (A0 8)) 21 (A0 9)) 22 (A0 10)) 23 (A0 11)) 24 (A0 12)) 25 (A0 13)) 26 (A0 14)) 27 (A0 15)) 28 32 (updF (updF (updF (updF (updF (updF (updF (updF (updF (updF (updF (updF (updF (updF (updF (updF (updF (updF (updF (updF (updF (updF (updF (updF (updF (updF (updF (updF (updF (updF (updF (updF (fun _ => 0) 0 (A1 0)) 1 (A1 1)) 2 (A1 2)) 3 (A1 3)) 4 (A1 4)) 5 (A1 5)) 6 (A1 6)) 7 (A1 7)) 8 (A1 8)) 9 (A1 9)) 10 (A1 10)) 11 (A1 11)) 12 (A1 12)) 13 (A1 13)) 14 (A1 14)) 15 (A1 15)) 16 (A1 16)) 17 (A1 17)) 18 (A1 18)) 19 (A1 19)) 20 (A1 20)) 21 (A1 21)) 22 (A1 22)) 23 (A1 23)) 24 (A1 24)) 25 (A1 25)) 26 (A1 26)) 27 (A1 27)) 28 (A1 28)) 29 (A1 29)) 30 (A1 30)) 31 (A1 31))) 60 32 (updF (updF (updF (updF (updF (updF (updF (updF (updF (updF (updF (updF (updF (updF (updF (updF (updF (updF (updF (updF (updF (updF (updF (updF (updF (updF (updF (updF (updF (updF (updF (updF (fun _ => 0) 0 (A2 0)) 1 (A2 1)) 2 (A2 2)) 3 (A2 3)) 4 (A2 4)) 5 (A2 5)) 6 (A2 6)) 7 (A2 7)) 8 (A2 8)) 9 (A2 9)) 10 (A2 10)) 11 (A2 11)) 12 (A2 12)) 13 (A2 13)) 14 (A2 14)) 15 (A2 15)) 16 (A2 16)) 17 (A2 17)) 18 (A2 18)) 19 (A2 19)) 20 (A2 20)) 21 (A2 21)) 22 (A2 22)) 23 (A2 23)) 24 (A2 24)) 25 (A2 25)) 26 (A2 26)) 27 (A2 27)) 28 (A2 28)) 29 (A2 29)) 30 (A2 30)) 31 (A2 31))) 92 4 (updF (updF (updF (updF (fun _ => 0) 0 (d0 : Int)) 1 (d1 : Int)) 2 (d2 : Int)) 3 (d3 : Int))) j = ((msg I O N d0 d1 d2 d3 j : Nat) : Int) := by
  have : j = 0 ∨ j = 1 ∨ j = 2 ∨ j = 3 ∨ j = 4 ∨ j = 5 ∨ j = 6 ∨ j = 7 ∨ j = 8 ∨ j = 9 ∨ j = 10 ∨ j = 11 ∨ j = 12 ∨ j = 13 ∨ j = 14 ∨ j = 15 ∨ j = 16 ∨ j = 17 ∨ j = 18 ∨ j = 19 ∨ j = 20 ∨ j = 21 ∨ j = 22 ∨ j = 23 ∨ j = 24 ∨ j = 25 ∨ j = 26 ∨ j = 27 ∨ j = 28 ∨ j = 29 ∨ j = 30 ∨ j = 31 ∨ j = 32 ∨ j = 33 ∨ j = 34 ∨ j = 35 ∨ j = 36 ∨ j = 37 ∨ j = 38 ∨ j = 39 ∨ j = 40 ∨ j = 41 ∨ j = 42 ∨ j = 43 ∨ j = 44 ∨ j = 45 ∨ j = 46 ∨ j = 47 ∨ j = 48 ∨ j = 49 ∨ j = 50 ∨ j = 51 ∨ j = 52 ∨ j = 53 ∨ j = 54 ∨ j = 55 ∨ j = 56 ∨ j = 57 ∨ j = 58 ∨ j = 59 ∨ j = 60 ∨ j = 61 ∨ j = 62 ∨ j = 63 ∨ j = 64 ∨ j = 65 ∨ j = 66 ∨ j = 67 ∨ j = 68 ∨ j = 69 ∨ j = 70 ∨ j = 71 ∨ j = 72 ∨ j = 73 ∨ j = 74 ∨ j = 75 ∨ j = 76 ∨ j = 77 ∨ j = 78 ∨ j = 79 ∨ j = 80 ∨ j = 81 ∨ j = 82 ∨ j = 83 ∨ j = 84 ∨ j = 85 ∨ j = 86 ∨ j = 87 ∨ j = 88 ∨ j = 89 ∨ j = 90 ∨ j = 91 ∨ j = 92 ∨ j = 93 ∨ j = 94 ∨ j = 95 := by omega
  clear hj
  rcases this with rfl | rfl | rfl | rfl | rfl | rfl | rfl | rfl | rfl | rfl | rfl | rfl | rfl | rfl | rfl | rfl | rfl | rfl | rfl | rfl | rfl | rfl | rfl | rfl | rfl | rfl | rfl | rfl | rfl | rfl | rfl | rfl | rfl | rfl | rfl | rfl | rfl | rfl | rfl | rfl | rfl | rfl | rfl | rfl | rfl | rfl | rfl | rfl | rfl | rfl | rfl | rfl | rfl | rfl | rfl | rfl | rfl | rfl | rfl | rfl | rfl | rfl | rfl | rfl | rfl | rfl | rfl | rfl | rfl | rfl | rfl | rfl | rfl | rfl | rfl | rfl | rfl | rfl | rfl | rfl | rfl | rfl | rfl | rfl | rfl | rfl | rfl | rfl | rfl | rfl | rfl | rfl | rfl | rfl | rfl | rfl
  · rfl
  · rfl
  · rfl
  · rfl
  · rfl
  · rfl
  · rfl
  · rfl
  · rfl
  · rfl
  · rfl
  · rfl
  · exact h0 0 (by decide)
  · exact h0 1 (by decide)
  · exact h0 2 (by decide)
  · exact h0 3 (by decide)
  · exact h0 4 (by decide)
  · exact h0 5 (by decide)
  · exact h0 6 (by decide)
  · exact h0 7 (by decide)
  · exact h0 8 (by decide)
  · exact h0 9 (by decide)
  · exact h0 10 (by decide)
  · exact h0 11 (by decide)
  · exact h0 12 (by decide)
  · exact h0 13 (by decide)
  · exact h0 14 (by decide)
  · exact h0 15 (by decide)
  · exact h1 0 (by decide)
  · exact h1 1 (by decide)
  · exact h1 2 (by decide)
  · exact h1 3 (by decide)
  · exact h1 4 (by decide)
  · exact h1 5 (by decide)
  · exact h1 6 (by decide)
  · exact h1 7 (by decide)
  · exact h1 8 (by decide)
  · exact h1 9 (by decide)
  · exact h1 10 (by decide)
  · exact h1 11 (by decide)
  · exact h1 12 (by decide)
  · exact h1 13 (by decide)
  · exact h1 14 (by decide)
  · exact h1 15 (by decide)
  · exact h1 16 (by decide)
  · exact h1 17 (by decide)
  · exact h1 18 (by decide)
  · exact h1 19 (by decide)
  · exact h1 20 (by decide)
  · exact h1 21 (by decide)
  · exact h1 22 (by decide)
  · exact h1 23 (by decide)
  · exact h1 24 (by decide)
  · exact h1 25 (by decide)
  · exact h1 26 (by decide)
  · exact h1 27 (by decide)
  · exact h1 28 (by decide)
  · exact h1 29 (by decide)
  · exact h1 30 (by decide)
  · exact h1 31 (by decide)
  · exact h2 0 (by decide)
  · exact h2 1 (by decide)
  · exact h2 2 (by decide)
  · exact h2 3 (by decide)
  · exact h2 4 (by decide)
  · exact h2 5 (by decide)
  · exact h2 6 (by decide)
  · exact h2 7 (by decide)
  · exact h2 8 (by decide)
  · exact h2 9 (by decide)
  · exact h2 10 (by decide)
  · exact h2 11 (by decide)
  · exact h2 12 (by decide)
  · exact h2 13 (by decide)
  · exact h2 14 (by decide)
  · exact h2 15 (by decide)
  · exact h2 16 (by decide)
  · exact h2 17 (by decide)
  · exact h2 18 (by decide)
  · exact h2 19 (by decide)
  · exact h2 20 (by decide)
  · exact h2 21 (by decide)
  · exact h2 22 (by decide)
  · exact h2 23 (by decide)
  · exact h2 24 (by decide)
  · exact h2 25 (by decide)
  · exact h2 26 (by decide)
  · exact h2 27 (by decide)
  · exact h2 28 (by decide)
  · exact h2 29 (by decide)
  · exact h2 30 (by decide)
  · exact h2 31 (by decide)
  · rfl
  · rfl
  · rfl
  · rfl

theorem rmedia_meets (A0 A1 A2 : Nat → Int) (I O N : Nat → Nat) (d0 d1 d2 d3 : Nat) (h0 : ∀ j, j < 16 → A0 j = (I j : Nat)) (h1 : ∀ j, j < 32 → A1 j = (O j : Nat)) (h2 : ∀ j, j < 32 → A2 j = (N j : Nat))
    (hI : ∀ j, j < 16 → I j < 256) (hO : ∀ j, j < 32 → O j < 256) (hN : ∀ j, j < 32 → N j < 256) (e0 : d0 < 256) (e1 : d1 < 256) (e2 : d2 < 256) (e3 : d3 < 256) :
    Meets Try.prog 45 [.agg (segCells .u8 16 A0 ++ ([])).toArray, .agg (segCells .u8 32 A1 ++ ([])).toArray, .agg (segCells .u8 32 A2 ++ ([])).toArray, .agg #[.int .u8 (d0 : Int), .int .u8 (d1 : Int)], .agg #[.int .u8 (d2 : Int), .int .u8 (d3 : Int)]] []
      (fun r hs => ∃ A : Nat → Int, r = .agg (segCells .u8 32 A ++ ([])).toArray ∧ hs = [] ∧ ∀ j, j < 32 → A j = ((sum2 (msg I O N d0 d1 d2 d3) j : Nat) : Int)) := by
  refine Meets.post (p := fun r hs => ∃ A : Nat → Int, r = .agg (segCells .u8 32 A ++ ([])).toArray ∧ ∀ j, j < 32 → A j = ((sum2 (msg I O N d0 d1 d2 d3) j : Nat) : Int)) ?_ fun v hs h => ⟨[], Ent.sub (List.nil_sublist _), h.choose, h.choose_spec.1, rfl, h.choose_spec.2⟩
  refine Meets.of_run (C := cx) (cnt := { i := 4, a := 3 }) (ρ := { iv := [(d0 : Int), (d1 : Int), (d2 : Int), (d3 : Int)], av := [A0, A1, A2] }) okT okFT okM Try.func45 (by constructor <;> rfl)
    (args := ([Go.RX.SV.agg [Go.RX.SV.seg (Go.IntKind.u8) 16 (Go.RX.E.avar 0)], Go.RX.SV.agg [Go.RX.SV.seg (Go.IntKind.u8) 32 (Go.RX.E.avar 1)], Go.RX.SV.agg [Go.RX.SV.seg (Go.IntKind.u8) 32 (Go.RX.E.avar 2)], Go.RX.SV.agg [Go.RX.SV.int (Go.IntKind.u8) (Go.RX.E.var 0), Go.RX.SV.int (Go.IntKind.u8) (Go.RX.E.var 1)], Go.RX.SV.agg [Go.RX.SV.int (Go.IntKind.u8) (Go.RX.E.var 2), Go.RX.SV.int (Go.IntKind.u8) (Go.RX.E.var 3)]])) (hp := []) ?_
  rw [show runF cx 45 ([Go.RX.SV.agg [Go.RX.SV.seg (Go.IntKind.u8) 16 (Go.RX.E.avar 0)], Go.RX.SV.agg [Go.RX.SV.seg (Go.IntKind.u8) 32 (Go.RX.E.avar 1)], Go.RX.SV.agg [Go.RX.SV.seg (Go.IntKind.u8) 32 (Go.RX.E.avar 2)], Go.RX.SV.agg [Go.RX.SV.int (Go.IntKind.u8) (Go.RX.E.var 0), Go.RX.SV.int (Go.IntKind.u8) (Go.RX.E.var 1)], Go.RX.SV.agg [Go.RX.SV.int (Go.IntKind.u8) (Go.RX.E.var 2), Go.RX.SV.int (Go.IntKind.u8) (Go.RX.E.var 3)]]) [] { i := 4, a := 3 } Try.f45 = fm_rmedia from run_rmedia, vc_rmedia]
  unfold st_rmedia
  intros
  refine ⟨_, rsum_meets _ _ I O N d0 d1 d2 d3 (msg_lt hI hO hN e0 e1 e2 e3) (ref_text h0 h1 h2), ?_⟩
  rintro r hs ⟨v, A, rfl, rfl, hA⟩
  refine ⟨v, A, rfl, rfl, A, ?_, hA⟩
  kernel_rfl
end Go.RX.Sh

namespace Go.RX.Md
open Go.RX Go.Proofs Go.RX.Sh

/-- One byte, and zeros behind it. -/
def lead (x j : Nat) : Nat := if j = 0 then x else 0
theorem lead_lt {x : Nat} (hx : x < 256) (j : Nat) : lead x j < 256 := by unfold lead; split <;> omega
theorem lead_cells (x n : Nat) : (.int .u8 (x : Int) :: (segCells .u8 n (fun _ => 0) ++ ([])) : List Value) = segCells .u8 (n + 1) (fun j => ((lead x j : Nat) : Int)) ++ ([]) := by
  simp [segCells, List.range_succ_eq_map, lead, Function.comp_def]

theorem mediaL (x y z d0 d1 d2 d3 : Nat) (hx : x < 256) (hy : y < 256) (hz : z < 256) (e0 : d0 < 256) (e1 : d1 < 256) (e2 : d2 < 256) (e3 : d3 < 256) :
    Meets Try.prog 44 [.agg (.int .u8 (x : Int) :: (segCells .u8 15 (fun _ => 0) ++ ([]))).toArray, .agg (.int .u8 (y : Int) :: (segCells .u8 31 (fun _ => 0) ++ ([]))).toArray, .agg (.int .u8 (z : Int) :: (segCells .u8 31 (fun _ => 0) ++ ([]))).toArray, .agg #[.int .u8 (d0 : Int), .int .u8 (d1 : Int)], .agg #[.int .u8 (d2 : Int), .int .u8 (d3 : Int)]] []
      (fun r hs => ∃ A : Nat → Int, r = .agg (segCells .u8 32 A ++ ([])).toArray ∧ hs = [] ∧ ∀ j, j < 32 → A j = ((sum2 (msg (lead x) (lead y) (lead z) d0 d1 d2 d3) j : Nat) : Int)) := by
  rw [lead_cells, lead_cells, lead_cells]
  exact media_meets _ _ _ _ _ _ d0 d1 d2 d3 (fun _ _ => rfl) (fun _ _ => rfl) (fun _ _ => rfl) (fun j _ => lead_lt hx j) (fun j _ => lead_lt hy j) (fun j _ => lead_lt hz j) e0 e1 e2 e3
theorem rmediaL (x y z d0 d1 d2 d3 : Nat) (hx : x < 256) (hy : y < 256) (hz : z < 256) (e0 : d0 < 256) (e1 : d1 < 256) (e2 : d2 < 256) (e3 : d3 < 256) :
    Meets Try.prog 45 [.agg (.int .u8 (x : Int) :: (segCells .u8 15 (fun _ => 0) ++ ([]))).toArray, .agg (.int .u8 (y : Int) :: (segCells .u8 31 (fun _ => 0) ++ ([]))).toArray, .agg (.int .u8 (z : Int) :: (segCells .u8 31 (fun _ => 0) ++ ([]))).toArray, .agg #[.int .u8 (d0 : Int), .int .u8 (d1 : Int)], .agg #[.int .u8 (d2 : Int), .int .u8 (d3 : Int)]] []
      (fun r hs => ∃ A : Nat → Int, r = .agg (segCells .u8 32 A ++ ([])).toArray ∧ hs = [] ∧ ∀ j, j < 32 → A j = ((sum2 (msg (lead x) (lead y) (lead z) d0 d1 d2 d3) j : Nat) : Int)) := by
  rw [lead_cells, lead_cells, lead_cells]
  exact rmedia_meets _ _ _ _ _ _ d0 d1 d2 d3 (fun _ _ => rfl) (fun _ _ => rfl) (fun _ _ => rfl) (fun j _ => lead_lt hx j) (fun j _ => lead_lt hy j) (fun j _ => lead_lt hz j) e0 e1 e2 e3

theorem z0 : 0 ≤ (0 : Int) ∧ (0 : Int) < 256 := by decide
theorem z1 : 0 ≤ (1 : Int) ∧ (1 : Int) < 256 := by decide
theorem z128 : 0 ≤ (128 : Int) ∧ (128 : Int) < 256 := by decide
/-- A sum's 32 bytes, padded as a text of one block. -/
theorem pad32 {A : Nat → Int} (h : ∀ j, j < 32 → 0 ≤ A j ∧ A j < 256) (j : Nat) (hj : j < 64) :
    0 ≤ (splF (updF (updF (updF (updF (updF (updF (updF (updF (updF (updF (updF (updF (updF (updF (updF (updF (updF (updF (updF (updF (updF (updF (updF (splF A 32 1 (updF (fun _ => 0) 0 128)) 33 0) 34 0) 35 0) 36 0) 37 0) 38 0) 39 0) 40 0) 41 0) 42 0) 43 0) 44 0) 45 0) 46 0) 47 0) 48 0) 49 0) 50 0) 51 0) 52 0) 53 0) 54 0) 55 0) 56 8 (updF (updF (updF (updF (updF (updF (updF (updF (fun _ => 0) 7 0) 6 1) 5 0) 4 0) 3 0) 2 0) 1 0) 0 0)) j ∧ (splF (updF (updF (updF (updF (updF (updF (updF (updF (updF (updF (updF (updF (updF (updF (updF (updF (updF (updF (updF (updF (updF (updF (updF (splF A 32 1 (updF (fun _ => 0) 0 128)) 33 0) 34 0) 35 0) 36 0) 37 0) 38 0) 39 0) 40 0) 41 0) 42 0) 43 0) 44 0) 45 0) 46 0) 47 0) 48 0) 49 0) 50 0) 51 0) 52 0) 53 0) 54 0) 55 0) 56 8 (updF (updF (updF (updF (updF (updF (updF (updF (fun _ => 0) 7 0) 6 1) 5 0) 4 0) 3 0) 2 0) 1 0) 0 0)) j < 256 := by
  have : j = 0 ∨ j = 1 ∨ j = 2 ∨ j = 3 ∨ j = 4 ∨ j = 5 ∨ j = 6 ∨ j = 7 ∨ j = 8 ∨ j = 9 ∨ j = 10 ∨ j = 11 ∨ j = 12 ∨ j = 13 ∨ j = 14 ∨ j = 15 ∨ j = 16 ∨ j = 17 ∨ j = 18 ∨ j = 19 ∨ j = 20 ∨ j = 21 ∨ j = 22 ∨ j = 23 ∨ j = 24 ∨ j = 25 ∨ j = 26 ∨ j = 27 ∨ j = 28 ∨ j = 29 ∨ j = 30 ∨ j = 31 ∨ j = 32 ∨ j = 33 ∨ j = 34 ∨ j = 35 ∨ j = 36 ∨ j = 37 ∨ j = 38 ∨ j = 39 ∨ j = 40 ∨ j = 41 ∨ j = 42 ∨ j = 43 ∨ j = 44 ∨ j = 45 ∨ j = 46 ∨ j = 47 ∨ j = 48 ∨ j = 49 ∨ j = 50 ∨ j = 51 ∨ j = 52 ∨ j = 53 ∨ j = 54 ∨ j = 55 ∨ j = 56 ∨ j = 57 ∨ j = 58 ∨ j = 59 ∨ j = 60 ∨ j = 61 ∨ j = 62 ∨ j = 63 := by omega
  clear hj
  rcases this with rfl | rfl | rfl | rfl | rfl | rfl | rfl | rfl | rfl | rfl | rfl | rfl | rfl | rfl | rfl | rfl | rfl | rfl | rfl | rfl | rfl | rfl | rfl | rfl | rfl | rfl | rfl | rfl | rfl | rfl | rfl | rfl | rfl | rfl | rfl | rfl | rfl | rfl | rfl | rfl | rfl | rfl | rfl | rfl | rfl | rfl | rfl | rfl | rfl | rfl | rfl | rfl | rfl | rfl | rfl | rfl | rfl | rfl | rfl | rfl | rfl | rfl | rfl | rfl
  · exact h _ (by decide)
  · exact h _ (by decide)
  · exact h _ (by decide)
  · exact h _ (by decide)
  · exact h _ (by decide)
  · exact h _ (by decide)
  · exact h _ (by decide)
  · exact h _ (by decide)
  · exact h _ (by decide)
  · exact h _ (by decide)
  · exact h _ (by decide)
  · exact h _ (by decide)
  · exact h _ (by decide)
  · exact h _ (by decide)
  · exact h _ (by decide)
  · exact h _ (by decide)
  · exact h _ (by decide)
  · exact h _ (by decide)
  · exact h _ (by decide)
  · exact h _ (by decide)
  · exact h _ (by decide)
  · exact h _ (by decide)
  · exact h _ (by decide)
  · exact h _ (by decide)
  · exact h _ (by decide)
  · exact h _ (by decide)
  · exact h _ (by decide)
  · exact h _ (by decide)
  · exact h _ (by decide)
  · exact h _ (by decide)
  · exact h _ (by decide)
  · exact h _ (by decide)
  · exact z128
  · exact z0
  · exact z0
  · exact z0
  · exact z0
  · exact z0
  · exact z0
  · exact z0
  · exact z0
  · exact z0
  · exact z0
  · exact z0
  · exact z0
  · exact z0
  · exact z0
  · exact z0
  · exact z0
  · exact z0
  · exact z0
  · exact z0
  · exact z0
  · exact z0
  · exact z0
  · exact z0
  · exact z0
  · exact z0
  · exact z0
  · exact z0
  · exact z0
  · exact z0
  · exact z1
  · exact z0
theorem pad32' {A : Nat → Int} (h : ∀ j, j < 32 → 0 ≤ A j ∧ A j < 256) : ∃ B : Nat → Nat, (∀ j, j < 64 → (splF (updF (updF (updF (updF (updF (updF (updF (updF (updF (updF (updF (updF (updF (updF (updF (updF (updF (updF (updF (updF (updF (updF (updF (splF A 32 1 (updF (fun _ => 0) 0 128)) 33 0) 34 0) 35 0) 36 0) 37 0) 38 0) 39 0) 40 0) 41 0) 42 0) 43 0) 44 0) 45 0) 46 0) 47 0) 48 0) 49 0) 50 0) 51 0) 52 0) 53 0) 54 0) 55 0) 56 8 (updF (updF (updF (updF (updF (updF (updF (updF (fun _ => 0) 7 0) 6 1) 5 0) 4 0) 3 0) 2 0) 1 0) 0 0)) j = ((B j : Nat) : Int)) ∧ ∀ j, j < 64 → B j < 256 :=
  ⟨fun j => ((splF (updF (updF (updF (updF (updF (updF (updF (updF (updF (updF (updF (updF (updF (updF (updF (updF (updF (updF (updF (updF (updF (updF (updF (splF A 32 1 (updF (fun _ => 0) 0 128)) 33 0) 34 0) 35 0) 36 0) 37 0) 38 0) 39 0) 40 0) 41 0) 42 0) 43 0) 44 0) 45 0) 46 0) 47 0) 48 0) 49 0) 50 0) 51 0) 52 0) 53 0) 54 0) 55 0) 56 8 (updF (updF (updF (updF (updF (updF (updF (updF (fun _ => 0) 7 0) 6 1) 5 0) 4 0) 3 0) 2 0) 1 0) 0 0)) j).toNat, fun j hj => (Int.toNat_of_nonneg (pad32 h j hj).1).symm, fun j hj => (Int.toNat_lt (pad32 h j hj).1).2 (pad32 h j hj).2⟩

theorem all_same {A B : Nat → Int} {f : Nat → Nat} {n : Nat} (hA : ∀ j, j < n → A j = ((f j : Nat) : Int)) (hB : ∀ j, j < n → B j = ((f j : Nat) : Int)) : ((List.range n).all fun j => A j == B j) = true := by
  rw [List.all_eq_true]
  intro j hj
  have := List.mem_range.1 hj
  rw [hA j this, hB j this]
  exact beq_self_eq_true _

end Go.RX.Md

namespace Go.RX.Md
open Go.RX Go.Proofs Go.RX.Sh

theorem works_meets : Meets Try.prog 46 [] [] (fun v hs => v = .bool true ∧ hs = []) := by
  refine Meets.bare (C := cx) okT okFT okM Try.func46 (fun v _ => v = .bool true) run_works (vc_works Try.prog (fun v _ => v = .bool true) _) ?_
  unfold st_works
  intros
  refine ⟨_, mediaL 5 1 2 0 0 1 1 (by decide) (by decide) (by decide) (by decide) (by decide) (by decide) (by decide), ?_⟩
  rintro x hs ⟨A0, rfl, rfl, hA⟩
  refine ⟨A0, rfl, rfl, ?_⟩
  intros
  refine ⟨_, narrow_meets, ?_⟩
  rintro r hs ⟨b, vh, vk, A, B, rfl, rfl, hA1, hB⟩
  refine ⟨b, vh, vk, A, B, rfl, rfl, ?_⟩
  have hb : ∀ j, j < 32 → 0 ≤ A0 j ∧ A0 j < 256 := fun j hj => by
    rw [hA j hj]
    have := bytes_lt (comp K0 (comp K0 H0 (msg (lead 5) (lead 1) (lead 2) 0 0 1 1)) (fun i => msg (lead 5) (lead 1) (lead 2) 0 0 1 1 (64 + i))) j
    unfold sum2
    omega
  obtain ⟨Bt, hb1, hb2⟩ := pad32' hb
  intros
  refine ⟨_, block_meets b vh vk _ 64 A B _ K0 H0 Bt (by decide) hA1 H0_lt hB hb1 hb2, ?_⟩
  rintro r hs ⟨A5, rfl, rfl, -⟩
  refine ⟨A5, rfl, rfl, ?_⟩
  intros
  refine ⟨_, rmediaL 5 1 2 0 0 1 1 (by decide) (by decide) (by decide) (by decide) (by decide) (by decide) (by decide), ?_⟩
  rintro x hs ⟨A4, rfl, rfl, hA4⟩
  refine ⟨A4, rfl, rfl, ?_⟩
  rw [all_same hA hA4]

end Go.RX.Md
