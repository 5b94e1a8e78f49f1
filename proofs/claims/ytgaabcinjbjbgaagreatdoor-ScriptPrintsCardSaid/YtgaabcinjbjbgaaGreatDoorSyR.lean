/- Arguments that are structs with bytes behind their numbers, and slices of these. -/
import Derived.Test.YtgaabcinjbjbgaaGreatDoorSpN
import Derived.Test.YtgaabcinjbjbgaaGreatDoorSqF

namespace Go.RX

/-- A call that looks at memory: whatever memory bears these views. -/
theorem Meets.lookIn {P : Program} {f : Nat} {args : List Value} {L : List HP} {Q : Value → Prop} (hw : ∀ h ∈ L, h.wr = false) (hm : Meets P f args L fun v _ => Q v) (pre : List HP)
    (hp : ∀ (w : World) (Fs : List HP), Owns (pre ++ Fs) w → ∀ h ∈ L, ∃ S : Nat → Prop, h.p w S ∧ ∀ k, S k → k < w.heap.size) : Meets P f args pre fun v hs => Q v ∧ hs = pre := by
  intro w Fs ho
  have hp := hp w Fs ho
  have hc : ∀ i : Nat, ∃ S : Nat → Prop, ∀ x, L[i]? = some x → x.p w S ∧ ∀ k, S k → k < w.heap.size := by
    intro i
    cases hi : L[i]? with
    | none => exact ⟨fun _ => False, fun x hx => nomatch hx⟩
    | some y =>
      obtain ⟨S, hS⟩ := hp y (List.mem_of_getElem? hi)
      exact ⟨S, fun x hx => by cases hx; exact hS⟩
  obtain ⟨S, hS⟩ := Classical.axiomOfChoice hc
  have o2 : Owns (L ++ [keptHP w.heap.size w]) w := by
    refine ⟨fun i => if i < L.length then S i else fun k => k < w.heap.size, ⟨?_, ?_⟩⟩
    · intro i x hx
      by_cases hi : i < L.length
      · rw [List.getElem?_append_left hi] at hx
        simp only [if_pos hi]
        exact hS i x hx
      · rw [List.getElem?_append_right (by omega)] at hx
        simp only [if_neg hi]
        have : i - L.length = 0 := by
          rcases Nat.eq_zero_or_pos (i - L.length) with h | h
          · exact h
          · rw [List.getElem?_eq_none (by simp; omega)] at hx
            cases hx
        rw [this] at hx
        cases hx
        exact ⟨⟨fun _ => Iff.rfl, fun _ _ => rfl⟩, fun _ h => h⟩
    · intro i j x y hij hx hy hwr
      have hf : ∀ (i : Nat) x, (L ++ [keptHP w.heap.size w])[i]? = some x → x.wr = false := by
        intro i x hx
        rcases List.mem_append.1 (List.mem_of_getElem? hx) with h | h
        · exact hw x h
        · rw [List.mem_singleton] at h
          rw [h]
          rfl
      rw [hf i x hx, hf j y hy] at hwr
      simp at hwr
  refine (hm w _ o2).mono ?_
  rintro e w' ⟨v, hs, rfl, hq, ⟨S', hS'⟩, hsm⟩
  have hk := (hS'.at_ hs.length (keptHP w.heap.size w) (by simp)).1
  obtain ⟨T, hT⟩ := ho
  exact ⟨v, pre, rfl, ⟨hq, rfl⟩, ⟨T, hT.keep hsm.size fun k hk' => hk.2 k hk'⟩, hsm⟩
end Go.RX
namespace Go.RX.Sq
open Go Go.RX Go.Proofs Go.RX.Ln Go.RX.Lp Go.RX.Lf Go.RX.Sp Go.RowKit
variable {w0 : World} {n0 : Nat}

theorem pureOk (C : Ctx) (hC : C.pure = pure) : PureOk Tryz.prog C := by
  intro f xs hp r ρ h hvc
  unfold pureRes at h
  rw [hC] at h
  unfold pure at h
  split at h
  · rename_i g hg
    split at hg
    · cases hg
      unfold pWorks at h
      split at h
      · cases h
        exact Sc.works_meets
      · cases h
    · exact Sc.pure_ok { C with pure := Sc.pure } rfl f xs hp r ρ (by unfold pureRes; simp only; rw [hg]; exact h) hvc
  · cases h
/-- A value that looks at bytes in memory that is kept. -/
structure BV (n0 : Nat) (w0 : World) (v : V1) (l : List UInt8) : Prop where
  views : World.views w0 v.v l.length (cellsB l)
  below : ∀ k, v.v.ownBlock = some k → 0 < l.length → k < n0
theorem tab_seg (k : IntKind) (n : Nat) (f : Nat → Int) : tabL n [colI k 1 f] = segCells k n f := tab_single (ρ := { av := [f] }) k n (.avar 0)
theorem cellsB_seg (l : List UInt8) : cellsB l = segCells .u8 l.length (bytesF l) := tab_seg .u8 l.length (bytesF l)
theorem cellsB_len (l : List UInt8) : (cellsB l).length = l.length := by rw [cellsB_seg, segCells_length]
theorem bv_p {w : World} {v : V1} {l : List UInt8} (hk : ∀ k, k < n0 → w.heap[k]? = w0.heap[k]?) (h : BV n0 w0 v l) : (sliB v l).p w (fun k => v.v.ownBlock = some k ∧ 0 < l.length) := by
  obtain ⟨⟨a, m, c, hv, hm, hmc, h0, hc⟩, hb⟩ := h
  refine ⟨?_, fun k => by simp⟩
  simp only [Bool.false_eq_true, if_false]
  refine ⟨by rw [cellsB_len]; omega, a, m, c, hv, hm, hmc, h0, fun ad had => ?_⟩
  obtain ⟨hs, hcell⟩ := hc ad had
  refine ⟨hs, fun j u hu => ?_⟩
  have hj : 0 < l.length := by
    have := (List.getElem?_eq_some_iff.1 hu).1
    rw [cellsB_len] at this
    omega
  have hbk := hb ad.block (by rw [hv, had]; rfl) hj
  rw [← hcell j u hu]
  have hsp := hs hj
  obtain ⟨bk, o, sp⟩ := ad
  simp only at hsp hbk
  subst hsp
  rw [addr_add_at]
  simp only [World.cell?, hk bk hbk]
theorem view_kept {v : V1} {l : List UInt8} (h : BV n0 w0 v l) (L : List HP) (hL : ∀ x ∈ L, x = keptHP n0 w0 ∨ x = sliB v l) : ∀ (w : World) (Fs : List HP), Owns ([keptHP n0 w0] ++ Fs) w → ∀ x ∈ L, ∃ S : Nat → Prop, x.p w S ∧ ∀ k, S k → k < w.heap.size := by
  intro w Fs ⟨S, hS⟩ x hx
  obtain ⟨hp, hlt⟩ := hS.at_ 0 (keptHP n0 w0) rfl
  rcases hL x hx with rfl | rfl
  · exact ⟨_, hp, hlt⟩
  · exact ⟨_, bv_p hp.2 h, fun k hk => hlt k ((hp.1 k).2 (h.below k hk.1 hk.2))⟩

/-! ### kinds that are none -/
theorem pform_meets (k : Nat) (hk : k < 1 ∨ 15 < k) (h255 : k ≤ 255) : Meets Tryz.prog 33 [.int .u8 k] [] fun v hs => v = .tuple #[.string ⟨#[]⟩, .string ⟨#[]⟩, .bool false] ∧ hs = [] := by
  refine Meets.of_bare (C := cx0) (cnt := { i := 1 }) (ρ := { iv := [(k : Int)] }) okT okFT okM Tryz.func33 (by constructor <;> rfl) (fun v => v = .tuple #[.string ⟨#[]⟩, .string ⟨#[]⟩, .bool false]) (args := [.int .u8 (.var 0)]) run_pform (vc_pform Tryz.prog (fun v _ => v = .tuple #[.string ⟨#[]⟩, .string ⟨#[]⟩, .bool false]) k (fun _ => LC.none)) ?_ (Sc.pure_ok cx0 rfl)
  unfold st_pform
  intro _
  exact ⟨by omega, fun _ => ⟨by omega, fun _ => ⟨fun _ => rfl, fun h => absurd (by omega) h⟩⟩⟩
theorem rform_meets (k : Nat) (hk : k < 1 ∨ 15 < k) (h255 : k ≤ 255) : Meets Tryz.prog 39 [.int .u8 k] [] fun v hs => v = .tuple #[.string ⟨#[]⟩, .string ⟨#[]⟩, .bool false] ∧ hs = [] := by
  refine Meets.of_bare (C := cx0) (cnt := { i := 1 }) (ρ := { iv := [(k : Int)] }) okT okFT okM Tryz.func39 (by constructor <;> rfl) (fun v => v = .tuple #[.string ⟨#[]⟩, .string ⟨#[]⟩, .bool false]) (args := [.int .u8 (.var 0)]) run_rform (vc_rform Tryz.prog (fun v _ => v = .tuple #[.string ⟨#[]⟩, .string ⟨#[]⟩, .bool false]) k (fun _ => LC.none)) ?_ (Sc.pure_ok cx0 rfl)
  unfold st_rform
  intro _ _
  exact ⟨by omega, fun _ => ⟨by omega, fun _ => ⟨fun _ => rfl, fun h => absurd (by omega) h⟩⟩⟩
theorem line_none (k : Nat) (x0 x1 x2 x3 x4 x5 : Int) (l : List UInt8) (hk : k < 1 ∨ 15 < k) : lineM k x0 x1 x2 x3 x4 x5 l = [] := by
  unfold lineM
  split <;> first | rfl | omega
theorem pl0_meets (k : Nat) (x0 x1 x2 x3 x4 x5 : Int) (l : List UInt8) (v : V1) (hk : k < 1 ∨ 15 < k) (h255 : k ≤ 255) : Meets Tryz.prog 14 [movV k x0 x1 x2 x3 x4 x5 v] [keptHP n0 w0, sliB v l] fun x _ => x = lineV (lineM k x0 x1 x2 x3 x4 x5 l) := by
  rw [line_none k x0 x1 x2 x3 x4 x5 l hk]
  have := Meets.of_runE (C := cx0) (cnt := { i := 8, a := 1, p := 1, v := 1 }) (ρ := { iv := [x0, x1, x2, x3, x4, x5, (l.length : Int), (k : Int)], av := [bytesF l], vv := [v], pv := [keptHP n0 w0] }) okT okFT okM Tryz.func14 (by constructor <;> rfl) (Post := fun x _ => x = lineV [])
    (args := [.agg [.int .u8 (.var 7), .int .u8 (.var 0), .int .u8 (.var 1), .int .u8 (.var 2), .int .u8 (.var 3), .int .i64 (.var 4), .int .u64 (.var 5), .vv 0]]) (hp := [.abs 0, .sli false 0 5 1 (.var 6) [⟨.int .u8, 1, .avar 0⟩]]) run_pl0 (vc_pl0 Tryz.prog (fun x _ => x = lineV []) x0 x1 x2 x3 x4 x5 l.length k (bytesF l) v (keptHP n0 w0) (fun _ => LC.none)) ?_ (Sc.pure_ok cx0 rfl)
  · exact this
  · unfold st_pl0
    intro _
    refine ⟨_, pform_meets k hk h255, ?_⟩
    rintro _ _ ⟨rfl, rfl⟩
    exact ⟨rfl, rfl, rfl⟩
theorem rl0_meets (k : Nat) (x0 x1 x2 x3 x4 x5 : Int) (l : List UInt8) (v : V1) (hk : k < 1 ∨ 15 < k) (h255 : k ≤ 255) : Meets Tryz.prog 15 [movV k x0 x1 x2 x3 x4 x5 v] [sliB v l] fun x _ => x = strV (lineM k x0 x1 x2 x3 x4 x5 l) := by
  rw [line_none k x0 x1 x2 x3 x4 x5 l hk]
  have := Meets.of_runE (C := cx0) (cnt := { i := 8, a := 1, v := 1 }) (ρ := { iv := [x0, x1, x2, x3, x4, x5, (l.length : Int), (k : Int)], av := [bytesF l], vv := [v] }) okT okFT okM Tryz.func15 (by constructor <;> rfl) (Post := fun x _ => x = strV [])
    (args := [.agg [.int .u8 (.var 7), .int .u8 (.var 0), .int .u8 (.var 1), .int .u8 (.var 2), .int .u8 (.var 3), .int .i64 (.var 4), .int .u64 (.var 5), .vv 0]]) (hp := [.sli false 0 5 1 (.var 6) [⟨.int .u8, 1, .avar 0⟩]]) run_rl0 (vc_rl0 Tryz.prog (fun x _ => x = strV []) x0 x1 x2 x3 x4 x5 l.length k (bytesF l) v (fun _ => LC.none)) ?_ (Sc.pure_ok cx0 rfl)
  · exact this
  · unfold st_rl0
    intro _
    refine ⟨_, rform_meets k hk h255, ?_⟩
    rintro _ _ ⟨rfl, rfl⟩
    exact ⟨rfl, rfl, fun _ => rfl⟩
/-- Line, of any move. -/
theorem pline (hL : Laid0 w0 n0) (k : Nat) (x0 x1 x2 x3 x4 x5 : Int) (l : List UInt8) (v : V1) (h255 : k ≤ 255) (h : Rg x0 x1 x2 x3 x4 x5 l) (hb : BV n0 w0 v l) :
    Meets Tryz.prog 14 [movV k x0 x1 x2 x3 x4 x5 v] [keptHP n0 w0] fun x hs => x = lineV (lineM k x0 x1 x2 x3 x4 x5 l) ∧ hs = [keptHP n0 w0] := by
  have hv := view_kept hb [keptHP n0 w0, sliB v l] (by simp)
  have hw : ∀ x ∈ [keptHP n0 w0, sliB v l], x.wr = false := by
    intro x hx
    simp only [List.mem_cons, List.mem_nil_iff, or_false] at hx
    rcases hx with rfl | rfl <;> rfl
  by_cases hk : k < 1 ∨ 15 < k
  · exact Meets.lookIn hw (pl0_meets k x0 x1 x2 x3 x4 x5 l v hk h255) _ hv
  · have : k = 1 ∨ k = 2 ∨ k = 3 ∨ k = 4 ∨ k = 5 ∨ k = 6 ∨ k = 7 ∨ k = 8 ∨ k = 9 ∨ k = 10 ∨ k = 11 ∨ k = 12 ∨ k = 13 ∨ k = 14 ∨ k = 15 := by omega
    rcases this with rfl | rfl | rfl | rfl | rfl | rfl | rfl | rfl | rfl | rfl | rfl | rfl | rfl | rfl | rfl
    · exact Meets.lookIn hw (pl1_meets hL x0 x1 x2 x3 x4 x5 l v h) _ hv
    · exact Meets.lookIn hw (pl2_meets hL x0 x1 x2 x3 x4 x5 l v h) _ hv
    · exact Meets.lookIn hw (pl3_meets hL x0 x1 x2 x3 x4 x5 l v h) _ hv
    · exact Meets.lookIn hw (pl4_meets hL x0 x1 x2 x3 x4 x5 l v h) _ hv
    · exact Meets.lookIn hw (pl5_meets hL x0 x1 x2 x3 x4 x5 l v h) _ hv
    · exact Meets.lookIn hw (pl6_meets hL x0 x1 x2 x3 x4 x5 l v h) _ hv
    · exact Meets.lookIn hw (pl7_meets hL x0 x1 x2 x3 x4 x5 l v h) _ hv
    · exact Meets.lookIn hw (pl8_meets hL x0 x1 x2 x3 x4 x5 l v h) _ hv
    · exact Meets.lookIn hw (pl9_meets hL x0 x1 x2 x3 x4 x5 l v h) _ hv
    · exact Meets.lookIn hw (pl10_meets hL x0 x1 x2 x3 x4 x5 l v h) _ hv
    · exact Meets.lookIn hw (pl11_meets hL x0 x1 x2 x3 x4 x5 l v h) _ hv
    · exact Meets.lookIn hw (pl12_meets hL x0 x1 x2 x3 x4 x5 l v h) _ hv
    · exact Meets.lookIn hw (pl13_meets hL x0 x1 x2 x3 x4 x5 l v h) _ hv
    · exact Meets.lookIn hw (pl14_meets hL x0 x1 x2 x3 x4 x5 l v h) _ hv
    · exact Meets.lookIn hw (pl15_meets hL x0 x1 x2 x3 x4 x5 l v h) _ hv
/-- Line, of the document, of any move. -/
theorem rline (k : Nat) (x0 x1 x2 x3 x4 x5 : Int) (l : List UInt8) (v : V1) (h255 : k ≤ 255) (h : Rg x0 x1 x2 x3 x4 x5 l) (hb : BV n0 w0 v l) :
    Meets Tryz.prog 15 [movV k x0 x1 x2 x3 x4 x5 v] [keptHP n0 w0] fun x hs => x = strV (lineM k x0 x1 x2 x3 x4 x5 l) ∧ hs = [keptHP n0 w0] := by
  have hv := view_kept hb [sliB v l] (by simp)
  have hw : ∀ x ∈ [sliB v l], x.wr = false := by
    intro x hx
    simp only [List.mem_cons, List.mem_nil_iff, or_false] at hx
    rcases hx with rfl
    rfl
  by_cases hk : k < 1 ∨ 15 < k
  · exact Meets.lookIn hw (rl0_meets k x0 x1 x2 x3 x4 x5 l v hk h255) _ hv
  · have : k = 1 ∨ k = 2 ∨ k = 3 ∨ k = 4 ∨ k = 5 ∨ k = 6 ∨ k = 7 ∨ k = 8 ∨ k = 9 ∨ k = 10 ∨ k = 11 ∨ k = 12 ∨ k = 13 ∨ k = 14 ∨ k = 15 := by omega
    rcases this with rfl | rfl | rfl | rfl | rfl | rfl | rfl | rfl | rfl | rfl | rfl | rfl | rfl | rfl | rfl
    · exact Meets.lookIn hw (rl1_meets x0 x1 x2 x3 x4 x5 l v h) _ hv
    · exact Meets.lookIn hw (rl2_meets x0 x1 x2 x3 x4 x5 l v h) _ hv
    · exact Meets.lookIn hw (rl3_meets x0 x1 x2 x3 x4 x5 l v h) _ hv
    · exact Meets.lookIn hw (rl4_meets x0 x1 x2 x3 x4 x5 l v h) _ hv
    · exact Meets.lookIn hw (rl5_meets x0 x1 x2 x3 x4 x5 l v h) _ hv
    · exact Meets.lookIn hw (rl6_meets x0 x1 x2 x3 x4 x5 l v h) _ hv
    · exact Meets.lookIn hw (rl7_meets x0 x1 x2 x3 x4 x5 l v h) _ hv
    · exact Meets.lookIn hw (rl8_meets x0 x1 x2 x3 x4 x5 l v h) _ hv
    · exact Meets.lookIn hw (rl9_meets x0 x1 x2 x3 x4 x5 l v h) _ hv
    · exact Meets.lookIn hw (rl10_meets x0 x1 x2 x3 x4 x5 l v h) _ hv
    · exact Meets.lookIn hw (rl11_meets x0 x1 x2 x3 x4 x5 l v h) _ hv
    · exact Meets.lookIn hw (rl12_meets x0 x1 x2 x3 x4 x5 l v h) _ hv
    · exact Meets.lookIn hw (rl13_meets x0 x1 x2 x3 x4 x5 l v h) _ hv
    · exact Meets.lookIn hw (rl14_meets x0 x1 x2 x3 x4 x5 l v h) _ hv
    · exact Meets.lookIn hw (rl15_meets x0 x1 x2 x3 x4 x5 l v h) _ hv
end Go.RX.Sq

namespace Go.RX.Sq
open Go Go.RX Go.Proofs Go.RX.Ln Go.RX.Lp Go.RX.Lf Go.RX.Sp Go.RowKit
variable {w0 : World} {n0 : Nat}

/-- A list of moves, as it came in. -/
structure Mv where
  n : Nat
  A : Nat → Nat → Int
  V : Nat → V1
  B : Nat → List UInt8
def Mv.cells (M : Mv) : List Value := tabL M.n [colI .u8 1 (M.A 0), colI .u8 1 (M.A 1), colI .u8 1 (M.A 2), colI .u8 1 (M.A 3), colI .u8 1 (M.A 4), colI .i64 1 (M.A 5), colI .u64 1 (M.A 6), colV 1 (fun j => (M.V j).v)]
abbrev sliM (v : V1) (M : Mv) : HP := sliHP false 39 8 v.v M.n M.cells
/-- What its numbers are; its bytes lie in memory that is kept. -/
structure MvOk (n0 : Nat) (w0 : World) (M : Mv) : Prop where
  b : ∀ i, i < M.n → BV n0 w0 (M.V i) (M.B i)
  r : ∀ i j, i < M.n → j < 5 → 0 ≤ M.A j i ∧ M.A j i ≤ 255
  g4 : ∀ i, i < M.n → -9223372036854775808 ≤ M.A 5 i ∧ M.A 5 i ≤ 9223372036854775807
  g5 : ∀ i, i < M.n → 0 ≤ M.A 6 i ∧ M.A 6 i ≤ 18446744073709551615
def Small (M : Mv) : Prop := ∀ i, i < M.n → (M.B i).length ≤ 10000000
def lineAt (M : Mv) (i : Nat) : List UInt8 := lineM (M.A 0 i).toNat (M.A 1 i) (M.A 2 i) (M.A 3 i) (M.A 4 i) (M.A 5 i) (M.A 6 i) (M.B i)
def movAt (M : Mv) (i : Nat) : Value := .agg #[.int .u8 (M.A 0 i), .int .u8 (M.A 1 i), .int .u8 (M.A 2 i), .int .u8 (M.A 3 i), .int .u8 (M.A 4 i), .int .i64 (M.A 5 i), .int .u64 (M.A 6 i), (M.V i).v]
theorem MvOk.rg {M : Mv} (h : MvOk n0 w0 M) (hs : Small M) {i : Nat} (hi : i < M.n) : Rg (M.A 1 i) (M.A 2 i) (M.A 3 i) (M.A 4 i) (M.A 5 i) (M.A 6 i) (M.B i) :=
  ⟨h.r i 1 hi (by decide), h.r i 2 hi (by decide), h.r i 3 hi (by decide), h.r i 4 hi (by decide), h.g4 i hi, h.g5 i hi, hs i hi⟩
theorem mov_eq {M : Mv} (h : MvOk n0 w0 M) {i : Nat} (hi : i < M.n) : movAt M i = movV (M.A 0 i).toNat (M.A 1 i) (M.A 2 i) (M.A 3 i) (M.A 4 i) (M.A 5 i) (M.A 6 i) (M.V i) := by
  have := h.r i 0 hi (by decide)
  unfold movAt movV
  rw [show (((M.A 0 i).toNat : Nat) : Int) = M.A 0 i by omega]
theorem plineAt (hL : Laid0 w0 n0) {M : Mv} (h : MvOk n0 w0 M) (hs : Small M) {i : Nat} (hi : i < M.n) : Meets Tryz.prog 14 [movAt M i] [keptHP n0 w0] fun x hs => x = lineV (lineAt M i) ∧ hs = [keptHP n0 w0] := by
  rw [mov_eq h hi]
  exact pline hL _ _ _ _ _ _ _ _ _ (by have := h.r i 0 hi (by decide); omega) (h.rg hs hi) (h.b i hi)
theorem rlineAt {M : Mv} (h : MvOk n0 w0 M) (hs : Small M) {i : Nat} (hi : i < M.n) : Meets Tryz.prog 15 [movAt M i] [keptHP n0 w0] fun x hs => x = strV (lineAt M i) ∧ hs = [keptHP n0 w0] := by
  rw [mov_eq h hi]
  exact rline _ _ _ _ _ _ _ _ _ (by have := h.r i 0 hi (by decide); omega) (h.rg hs hi) (h.b i hi)

theorem line_len (k : Nat) {x0 x1 x2 x3 x4 x5 : Int} {l : List UInt8} (h : Rg x0 x1 x2 x3 x4 x5 l) : (lineM k x0 x1 x2 x3 x4 x5 l).length ≤ 30000000 := by
  obtain ⟨g0, g1, g2, g3, g4, g5, gl⟩ := h
  have l0 := lenD x0 (by omega)
  have l1 := lenD x1 (by omega)
  have l2 := lenD x2 (by omega)
  have l3 := lenD x3 (by omega)
  have l4 := lenI x4 g4
  have l5 := lenD x5 (by omega)
  have l6 := lenH l gl
  rw [rowS0] at l0 l1 l2 l3 l4 l5 l6
  unfold lineM devS
  split <;> (try split) <;> simp only [List.length_append, List.length_cons, List.length_nil] <;> omega

/-! ### heavy -/
theorem own_view {R : HP} {v : V1} {l : List UInt8} (hb : BV n0 w0 v l) (w : World) (Fs : List HP) (ho : Owns ([R, keptHP n0 w0] ++ Fs) w) : Owns ([R, keptHP n0 w0, sliB v l] ++ Fs) w := by
  have o1 : Owns (keptHP n0 w0 :: R :: Fs) w := ho.perm (List.Perm.swap _ _ _)
  have o2 := Owns.dup rfl o1
  have o3 := Ent.put (a := [keptHP n0 w0, keptHP n0 w0]) 1 (keptHP n0 w0) (sliB v l) rfl (fun h => h) (fun w S hp => ⟨_, fun k hk => (hp.1 k).2 (hb.below k hk.1 hk.2), bv_p hp.2 hb⟩) w (R :: Fs) o2
  refine o3.perm ?_
  show (keptHP n0 w0 :: sliB v l :: R :: Fs).Perm (R :: keptHP n0 w0 :: sliB v l :: Fs)
  exact ((List.Perm.swap R (sliB v l) Fs).cons _).trans (List.Perm.swap R (keptHP n0 w0) (sliB v l :: Fs))
theorem heavy_meets (v : V1) {M : Mv} (h : MvOk n0 w0 M) (hn : M.n ≤ 9223372036854775807) (hlen : ∀ i, i < M.n → (M.B i).length ≤ 9223372036854775807) : Meets Tryz.prog 13 [v.v] [keptHP n0 w0, sliM v M] fun x hs => (∃ b : Bool, x = .bool b ∧ (b = false → Small M)) ∧ hs = [keptHP n0 w0, sliM v M] := by
  have hr : Meets Tryz.prog 13 [v.v] [keptHP n0 w0, sliM v M] fun x _ => ∃ b : Bool, x = .bool b ∧ (b = false → Small M) := by
    have := Meets.of_runE (C := cx) (cnt := { i := 1, a := 7, p := 1, v := 1 }) (ρ := { iv := [(M.n : Int)], av := [M.A 0, M.A 1, M.A 2, M.A 3, M.A 4, M.A 5, M.A 6], vv := [v], va := [M.V], pv := [keptHP n0 w0] }) okT okFT okM Tryz.func13 (by constructor <;> rfl) (Post := fun x _ => ∃ b : Bool, x = .bool b ∧ (b = false → Small M))
      (args := [.vv 0]) (hp := hpM) run_heavy (vc_heavy Tryz.prog (fun x _ => ∃ b : Bool, x = .bool b ∧ (b = false → Small M)) M.n (M.A 0) (M.A 1) (M.A 2) (M.A 3) (M.A 4) (M.A 5) (M.A 6) v M.V (keptHP n0 w0) (fun _ => LC.none)) ?_ (pureOk cx rfl)
    · exact this
    · unfold st_heavy
      refine ⟨by omega, fun _ => ?_⟩
      refine ⟨fun e => 0 ≤ e.i.getD 0 0 ∧ e.i.getD 0 0 ≤ M.n ∧ 0 ≤ e.i.getD 1 0 ∧ e.i.getD 1 0 ≤ 1500 ∧ ∀ j : Nat, (j : Int) < e.i.getD 0 0 → ((M.B j).length : Int) / 16 ≤ e.i.getD 1 0, fun e => ((M.n : Int) - e.i.getD 0 0).toNat,
        ⟨0, 0, rfl, rfl, by simp, by simp, by simp, by simp, fun j hj => by simp at hj; omega⟩, ?_⟩
      rintro i s ⟨hi0, hi1, hs0, hs1, hB⟩
      simp only [List.getD_cons_zero, List.getD_cons_succ] at hi0 hi1 hs0 hs1 hB
      refine ⟨fun hi => ⟨hi0, fun _ => fun b => ?_⟩, fun hi => ?_⟩
      · have hit : i.toNat < M.n := by omega
        refine ⟨fun e => e.i.getD 0 0 = (M.B i.toNat).length, fun w Fs ho => ⟨M.V i.toNat, (M.B i.toNat).length, bytesF (M.B i.toNat), own_view (h.b i.toNat hit) w Fs ho, rfl⟩, ?_⟩
        rintro v1 x3 A7 hx
        simp only [List.getD_cons_zero] at hx
        subst hx
        have hl := hlen i.toNat hit
        have hq : IntKind.wrap .i64 (iop .quo .i64 ((M.B i.toNat).length : Int) 16) = ((M.B i.toNat).length : Int) / 16 := by
          simp only [iop]
          rw [Int.tdiv_eq_ediv_of_nonneg (by omega)]
          exact IntWalk.i64_in _ (by omega)
        rw [hq]
        refine ⟨by omega, fun _ => ⟨by omega, fun _ => ⟨by omega, fun _ => ⟨by omega, fun _ => ⟨by omega, fun _ => ⟨fun _ => ⟨true, rfl, fun h => by cases h⟩, fun hle => ⟨by omega, fun _ => ⟨by omega, fun _ => ⟨_, _, rfl, rfl, ⟨?_, ?_, ?_, ?_, ?_⟩, ?_⟩⟩⟩⟩⟩⟩⟩⟩⟩
        · simp only [List.getD_cons_zero]; omega
        · simp only [List.getD_cons_zero]; omega
        · simp only [List.getD_cons_zero, List.getD_cons_succ]; omega
        · simp only [List.getD_cons_zero, List.getD_cons_succ]; omega
        · simp only [List.getD_cons_zero, List.getD_cons_succ]
          intro j hj
          by_cases hji : j = i.toNat
          · subst hji
            omega
          · have := hB j (by omega)
            omega
        · simp only [List.getD_cons_zero]; omega
      · refine ⟨false, rfl, fun _ j hj => ?_⟩
        have := hB j (by omega)
        omega
  exact Meets.lookIn (by
    intro x hx
    simp only [List.mem_cons, List.mem_nil_iff, or_false] at hx
    rcases hx with rfl | rfl <;> rfl) hr _ fun w Fs ⟨S, hS⟩ x hx => by
      obtain ⟨i, hi⟩ := List.getElem?_of_mem hx
      have hlt : i < 2 := (List.getElem?_eq_some_iff.1 hi).1
      exact ⟨S i, hS.at_ i x (by rw [List.getElem?_append_left hlt]; exact hi)⟩

/-! ### the document's Print -/
/-- The text of lines, from the i-th on; an error: none. -/
def prG : Nat → List UInt8 → List (List UInt8) → List UInt8 × Int
  | _, acc, [] => (acc, 0)
  | i, acc, s :: r => if i = 1000 then ([], 3) else if s = [] then ([], 2) else if 262144 < acc.length + s.length + 1 then ([], 3) else prG (i + 1) (acc ++ s ++ [10]) r
def linesOf (M : Mv) : List (List UInt8) := (List.range M.n).map (lineAt M)
theorem lines_drop (M : Mv) {i : Nat} (hi : i < M.n) : (linesOf M).drop i = lineAt M i :: (linesOf M).drop (i + 1) := by
  have hl : i < (linesOf M).length := by simp [linesOf]; exact hi
  rw [List.drop_eq_getElem_cons hl]
  simp [linesOf]
theorem sd_len {f : Nat → Int} {s : List UInt8} (h : Sd f s) : f 0 = s.length := by
  have h1 := h.1
  have h2 := h.2
  have := strD_length f
  rw [h1] at this
  omega
def prV (r : List UInt8 × Int) : Value := .tuple #[strV r.1, .int .i64 r.2]
theorem rprint_meets (v : V1) {M : Mv} (h : MvOk n0 w0 M) (hs : Small M) (hn : M.n ≤ 9223372036854775807) : Meets Tryz.prog 18 [v.v] [keptHP n0 w0, sliM v M] fun x hs => x = prV (prG 0 [] (linesOf M)) ∧ hs = [keptHP n0 w0, sliM v M] := by
  have hr : Meets Tryz.prog 18 [v.v] [keptHP n0 w0, sliM v M] fun x _ => x = prV (prG 0 [] (linesOf M)) := by
    have := Meets.of_runE (C := cx) (cnt := { i := 1, a := 7, p := 1, v := 1 }) (ρ := { iv := [(M.n : Int)], av := [M.A 0, M.A 1, M.A 2, M.A 3, M.A 4, M.A 5, M.A 6], vv := [v], va := [M.V], pv := [keptHP n0 w0] }) okT okFT okM Tryz.func18 (by constructor <;> rfl) (Post := fun x _ => x = prV (prG 0 [] (linesOf M)))
      (args := [.vv 0]) (hp := hpM) run_rprint (vc_rprint Tryz.prog (fun x _ => x = prV (prG 0 [] (linesOf M))) M.n (M.A 0) (M.A 1) (M.A 2) (M.A 3) (M.A 4) (M.A 5) (M.A 6) v M.V (keptHP n0 w0) (fun _ => LC.none)) ?_ (pureOk cx rfl)
    · exact this
    · unfold st_rprint
      refine ⟨fun e => 0 ≤ e.i.getD 0 0 ∧ e.i.getD 0 0 ≤ M.n ∧ ∃ acc, Sd (e.a.getD 0 fun _ => 0) acc ∧ acc.length ≤ 262144 ∧ prG (e.i.getD 0 0).toNat acc ((linesOf M).drop (e.i.getD 0 0).toNat) = prG 0 [] (linesOf M), fun e => ((M.n : Int) - e.i.getD 0 0).toNat,
        ⟨0, rowLF [0], rfl, rfl, by simp, by simp, [], ⟨rfl, Int.le_refl _⟩, by simp, rfl⟩, ?_⟩
      rintro i A ⟨hi0, hi1, acc, hA, hacc, hG⟩
      simp only [List.getD_cons_zero] at hi0 hi1 hA hG
      refine ⟨by omega, fun _ => ⟨fun hi => ?_, fun hi => ?_⟩⟩
      · have hit : i.toNat < M.n := by omega
        rw [lines_drop M hit, prG] at hG
        refine ⟨fun h1 => ?_, fun h1 => ⟨hi0, fun _ => ⟨_, rlineAt h hs hit, ?_⟩⟩⟩
        · show _ = _
          rw [if_pos (by omega)] at hG
          rw [← hG]
          rfl
        · rintro _ _ ⟨rfl, rfl⟩
          rw [if_neg (by omega)] at hG
          refine ⟨rowS (lineAt M i.toNat), strV_row _, rfl, ?_⟩
          have hempty : strD (rowLF [0]) = [] := rfl
          rw [strD_rowS, hempty]
          have a0 := sd_len hA
          have l0 := rowS0 (lineAt M i.toNat)
          refine ⟨fun h2 => ?_, fun h2 => ?_⟩
          · show _ = _
            rw [if_pos h2] at hG
            rw [← hG]
            rfl
          · rw [if_neg h2] at hG
            have hbig := line_len (M.A 0 i.toNat).toNat (h.rg hs hit)
            change (lineAt M i.toNat).length ≤ 30000000 at hbig
            refine ⟨by omega, fun _ => ⟨by omega, fun _ => ⟨by omega, fun _ => ⟨by omega, fun _ => ⟨by omega, fun _ => ⟨by omega, fun _ => ⟨fun h3 => ?_, fun h3 => ⟨by omega, fun _ => ⟨by omega, fun _ => ⟨_, _, rfl, rfl, ⟨?_, ?_, acc ++ lineAt M i.toNat ++ [10], ?_, ?_, ?_⟩, ?_⟩⟩⟩⟩⟩⟩⟩⟩⟩⟩
            · show _ = _
              rw [if_pos (by omega)] at hG
              rw [← hG]
              rfl
            · simp only [List.getD_cons_zero]; omega
            · simp only [List.getD_cons_zero]; omega
            · simp only [List.getD_cons_zero]
              exact Sd.cat (Sd.cat hA (Sd.row _)) (Sd.lit _ _ (lit_row _ _ _ rfl rfl))
            · simp only [List.length_append, List.length_singleton]; omega
            · simp only [List.getD_cons_zero]
              rw [if_neg (by omega)] at hG
              rw [show (i + 1).toNat = i.toNat + 1 by omega]
              exact hG
            · simp only [List.getD_cons_zero]; omega
      · show Value.tuple _ = _
        rw [List.drop_eq_nil_of_le (by simp [linesOf]; omega), prG] at hG
        rw [← hG, hA.1]
        rfl
  exact Meets.lookIn (by
    intro x hx
    simp only [List.mem_cons, List.mem_nil_iff, or_false] at hx
    rcases hx with rfl | rfl <;> rfl) hr _ fun w Fs ⟨S, hS⟩ x hx => by
      obtain ⟨i, hi⟩ := List.getElem?_of_mem hx
      have hlt : i < 2 := (List.getElem?_eq_some_iff.1 hi).1
      exact ⟨S i, hS.at_ i x (by rw [List.getElem?_append_left hlt]; exact hi)⟩
end Go.RX.Sq

namespace Go.RX.Sq
open Go Go.RX Go.Proofs Go.RX.Ln Go.RX.Lp Go.RX.Lf Go.RX.Sp Go.RowKit
variable {w0 : World} {n0 : Nat}

def isS (q : Bool) : List UInt8 := if q then [121, 101, 115] else [110, 111]
/-- An answer's line. -/
def tellS (q : Bool) (e : Int) (id l : List UInt8) : List UInt8 := isS q ++ [32] ++ Lib.itoa e ++ [32] ++ hexS id ++ [32] ++ hexS l
/-- Sixteen bytes. -/
def idL (A : Nat → Int) : List UInt8 := (List.range 16).map fun j => UInt8.ofNat (A j).toNat
theorem idL_at (A : Nat → Int) (h : ∀ j, j < 16 → 0 ≤ A j ∧ A j ≤ 255) (j : Nat) (hj : j < 16) : bytesF (idL A) j = A j := by
  unfold bytesF idL
  have := h j hj
  rw [List.getD_eq_getElem?_getD, List.getElem?_map, List.getElem?_range hj]
  simp only [Option.map_some, Option.getD_some, UInt8.toNat_ofNat']
  omega
theorem idL_len (A : Nat → Int) : (idL A).length = 16 := by simp [idL]
def resV (q : Bool) (e : Int) (A : Nat → Int) (v : V1) : Value := .agg (.bool q :: (.int .i64 e :: (List.append (segCells .u8 16 A) ([v.v])))).toArray
theorem wr_one (v : V1) (l : List UInt8) : ∀ x ∈ [sliB v l], x.wr = false := by
  intro x hx
  rw [List.mem_singleton] at hx
  rw [hx]
  rfl
theorem wr_two (v : V1) (l : List UInt8) : ∀ x ∈ [keptHP n0 w0, sliB v l], x.wr = false := by
  intro x hx
  simp only [List.mem_cons, List.mem_nil_iff, or_false] at hx
  rcases hx with rfl | rfl <;> rfl
theorem hex_row (q : Bool) (e : Int) (A : Nat → Int) (hA : ∀ j, j < 16 → 0 ≤ A j ∧ A j ≤ 255) (v : V1) (b : Nat) :
    Meets Tryz.prog 37 [.slice (some ⟨b, 2, none⟩) 16 16] [rowHP b true (.bool q :: (.int .i64 e :: (List.append (segCells .u8 16 A) ([v.v]))))] fun x hs => x = strV (hexS (idL A)) ∧ hs = [rowHP b true (.bool q :: (.int .i64 e :: (List.append (segCells .u8 16 A) ([v.v]))))] := by
  have hm := hex_meets ⟨.slice (some ⟨b, 2, none⟩) 16 16, rfl⟩ (idL A) (by rw [idL_len]; omega)
  refine Meets.lookIn (L := [sliB ⟨.slice (some ⟨b, 2, none⟩) 16 16, rfl⟩ (idL A)]) (wr_one _ _) (hm.post fun v hs h => ⟨hs, Ent.refl _, h.1⟩) _ ?_
  intro w Fs ⟨S, hS⟩ x hx
  rw [List.mem_singleton] at hx
  subst hx
  obtain ⟨⟨h1, ty, fz, h2, _⟩, hlt⟩ := hS.at_ 0 _ rfl
  refine ⟨fun k => k = b, ⟨?_, fun k => ?_⟩, fun k hk => hlt k ((h1 k).2 hk)⟩
  · simp only [Bool.false_eq_true, if_false]
    refine ⟨by rw [cellsB_len]; omega, some ⟨b, 2, none⟩, 16, 16, rfl, by rw [idL_len], Nat.le_refl _, by simp, ?_⟩
    rintro _ ⟨⟩
    refine ⟨fun _ => rfl, fun j u hu => ?_⟩
    rw [cellsB_seg, idL_len, segCells_getElem?] at hu
    split at hu
    · rename_i hj
      cases hu
      rw [addr_add_at]
      simp only [World.cell?, h2]
      rw [idL_at A hA j hj, List.getElem?_toArray, show 2 + j = j + 1 + 1 by omega, List.getElem?_cons_succ, List.getElem?_cons_succ]
      show (segCells .u8 16 A ++ [v.v])[j]? = _
      rw [List.getElem?_append_left (by rw [segCells_length]; exact hj), segCells_getElem?, if_pos hj]
    · cases hu
  · simp [Value.ownBlock, idL_len, eq_comm]
theorem join4' (a b c d : List UInt8) : Lib.join [a, b, c, d] [32] = a ++ [32] ++ b ++ [32] ++ c ++ [32] ++ d := by simp [Lib.join, List.intercalate]
theorem tell_meets (hL : Laid0 w0 n0) (q : Bool) (e : Int) (A : Nat → Int) (l : List UInt8) (v : V1) (he : -9223372036854775808 ≤ e ∧ e ≤ 9223372036854775807) (hA : ∀ j, j < 16 → 0 ≤ A j ∧ A j ≤ 255) (hl : l.length ≤ 10000) (hb : BV n0 w0 v l) :
    Meets Tryz.prog 19 [resV q e A v] [keptHP n0 w0] fun x hs => x = strV (tellS q e (idL A) l) ∧ hs = [keptHP n0 w0] := by
  have hr : Meets Tryz.prog 19 [resV q e A v] [keptHP n0 w0, sliB v l] fun x _ => x = strV (tellS q e (idL A) l) := by
    have := Meets.of_runE (C := cxT) (cnt := { i := 2, a := 2, p := 1, v := 1, bo := 1 }) (ρ := { iv := [e, (l.length : Int)], av := [A, bytesF l], bo := [q], vv := [v], pv := [keptHP n0 w0] }) okT okFT okM Tryz.func19 (by constructor <;> rfl) (Post := fun x _ => x = strV (tellS q e (idL A) l))
      (args := [.agg [.bool (.var 0), .int .i64 (.var 0), .seg .u8 16 (.avar 0), .vv 0]]) (hp := [.abs 0, .sli false 0 5 1 (.var 1) [⟨.int .u8, 1, .avar 1⟩]]) run_tell (vc_tell Tryz.prog (fun x _ => x = strV (tellS q e (idL A) l)) e l.length A (bytesF l) q v (keptHP n0 w0) (fun _ => LC.none)) ?_ (Sc.pure_ok cxT rfl)
    · exact this
    · have l4 := lenI e he
      have l6 := hexS_len l
      have l7 := hexS_len (idL A)
      rw [idL_len] at l7
      rw [rowS0] at l4
      have jm : ∀ (b : Nat), Meets Tryz.prog 38 [.slice (some ⟨b, 0, none⟩) 4 4, strV [32]] [rowHP b true ([isS q, Lib.itoa e, hexS (idL A), hexS l].map strV)] fun x hs => x = strV (tellS q e (idL A) l) ∧ hs = [rowHP b true ([isS q, Lib.itoa e, hexS (idL A), hexS l].map strV)] := by
        intro b
        have hq : (isS q).length ≤ 3 := by cases q <;> decide
        have := join_meets b [isS q, Lib.itoa e, hexS (idL A), hexS l] [32] 4 rfl (by decide) (by
          rw [join4']
          simp only [List.length_append, List.length_singleton]
          omega) (by decide)
        rw [join4'] at this
        exact this
      unfold st_tell
      intro b
      refine ⟨fun h => ?_, fun h => ?_⟩
      · obtain rfl : q = true := h
        refine ⟨_, itoa_meets hL e he.1 he.2, ?_⟩
        rintro _ _ ⟨rfl, rfl⟩
        refine ⟨rowS (Lib.itoa e), strV_row _, rfl, _, hex_row true e A hA v b, ?_⟩
        rintro _ _ ⟨rfl, rfl⟩
        refine ⟨rowS (hexS (idL A)), strV_row _, rfl, _, hex_meets v l (by omega), ?_⟩
        rintro _ _ ⟨rfl, rfl⟩
        refine ⟨rowS (hexS l), strV_row _, rfl, fun b1 => ?_⟩
        rw [strD_rowS, strD_rowS, strD_rowS]
        refine ⟨_, jm b1, ?_⟩
        rintro _ _ ⟨rfl, rfl⟩
        exact ⟨rowS (tellS true e (idL A) l), strV_row _, rfl, (strV_row _).symm⟩
      · obtain rfl : q = false := by simpa using h
        refine ⟨_, itoa_meets hL e he.1 he.2, ?_⟩
        rintro _ _ ⟨rfl, rfl⟩
        refine ⟨rowS (Lib.itoa e), strV_row _, rfl, _, hex_row false e A hA v b, ?_⟩
        rintro _ _ ⟨rfl, rfl⟩
        refine ⟨rowS (hexS (idL A)), strV_row _, rfl, _, hex_meets v l (by omega), ?_⟩
        rintro _ _ ⟨rfl, rfl⟩
        refine ⟨rowS (hexS l), strV_row _, rfl, fun b1 => ?_⟩
        rw [strD_rowS, strD_rowS, strD_rowS]
        refine ⟨_, jm b1, ?_⟩
        rintro _ _ ⟨rfl, rfl⟩
        exact ⟨rowS (tellS false e (idL A) l), strV_row _, rfl, (strV_row _).symm⟩
  exact Meets.lookIn (wr_two _ _) hr _ (view_kept hb _ (by simp))
theorem rhex_own (A B : Nat → Int) (hA : ∀ j, j < 16 → 0 ≤ A j ∧ A j ≤ 255) (hB : ∀ j, j < 16 → B j = A j) (v : V1) : Meets Tryz.prog 44 [v.v] [sliHP true 5 1 v.v 16 (tabL 16 [colI .u8 1 B])] fun x hs => x = strV (hexS (idL A)) ∧ hs = [sliHP true 5 1 v.v 16 (tabL 16 [colI .u8 1 B])] := by
  have hm := rhex_meets v (idL A) (by rw [idL_len]; omega)
  have hc : tabL 16 [colI .u8 1 B] = cellsB (idL A) := by
    rw [tab_seg, cellsB_seg, idL_len]
    exact segCells_congr .u8 16 fun j hj => by rw [hB j hj, idL_at A hA j hj]
  refine Meets.lookIn (L := [sliB v (idL A)]) (wr_one _ _) (hm.post fun v hs h => ⟨hs, Ent.refl _, h.1⟩) _ ?_
  intro w Fs ⟨S, hS⟩ x hx
  rw [List.mem_singleton] at hx
  subst hx
  obtain ⟨hp, hlt⟩ := hS.at_ 0 _ rfl
  have hv := sli_views hp
  refine ⟨S 0, ⟨?_, fun k => ?_⟩, hlt⟩
  · simp only [Bool.false_eq_true, if_false]
    rw [hc] at hv
    rw [idL_len]
    exact ⟨hv.2, hv.1⟩
  · rw [hp.2 k, idL_len]
    simp
theorem rtell_meets (q : Bool) (e : Int) (A : Nat → Int) (l : List UInt8) (v : V1) (he : -9223372036854775808 ≤ e ∧ e ≤ 9223372036854775807) (hA : ∀ j, j < 16 → 0 ≤ A j ∧ A j ≤ 255) (hl : l.length ≤ 10000) (hb : BV n0 w0 v l) :
    Meets Tryz.prog 20 [resV q e A v] [keptHP n0 w0] fun x hs => x = strV (tellS q e (idL A) l) ∧ hs = [keptHP n0 w0] := by
  have hr : Meets Tryz.prog 20 [resV q e A v] [sliB v l] fun x _ => x = strV (tellS q e (idL A) l) := by
    have := Meets.of_runE (C := cxT) (cnt := { i := 2, a := 2, v := 1, bo := 1 }) (ρ := { iv := [e, (l.length : Int)], av := [A, bytesF l], bo := [q], vv := [v] }) okT okFT okM Tryz.func20 (by constructor <;> rfl) (Post := fun x _ => x = strV (tellS q e (idL A) l))
      (args := [.agg [.bool (.var 0), .int .i64 (.var 0), .seg .u8 16 (.avar 0), .vv 0]]) (hp := [.sli false 0 5 1 (.var 1) [⟨.int .u8, 1, .avar 1⟩]]) run_rtell (vc_rtell Tryz.prog (fun x _ => x = strV (tellS q e (idL A) l)) e l.length A (bytesF l) q v (fun _ => LC.none)) ?_ (Sc.pure_ok cxT rfl)
    · exact this
    · have l4 := lenI e he
      have l6 := lenH l (by omega)
      have l7 := lenH (idL A) (by rw [idL_len]; omega)
      unfold st_rtell
      intro b
      refine ⟨fun h => ?_, fun h => ?_⟩
      · obtain rfl : q = true := h
        refine ⟨fun x => 0 ≤ x.i.getD 0 0 ∧ x.i.getD 0 0 ≤ 16 ∧ x.i.getD 1 0 = x.i.getD 0 0 ∧ ∀ j : Nat, (j : Int) < x.i.getD 0 0 → (x.a.getD 0 fun _ => 0) j = A j, fun x => (16 - x.i.getD 0 0).toNat,
          ⟨⟨.slice none 0 0, rfl⟩, 0, 0, fun _ => 0, rfl, rfl, rfl, rfl, fun _ _ => rfl, by simp, by simp, rfl, fun j hj => by simp at hj; omega⟩, ?_⟩
        rintro v2 i m B ⟨hi0, hi1, hm, hB⟩
        simp only [List.getD_cons_zero, List.getD_cons_succ] at hi0 hi1 hm hB
        obtain rfl := hm.symm
        refine ⟨fun hi => ⟨hi0, fun _ => fun _ => ⟨hi0, fun _ => ⟨by omega, fun _ => fun v3 => ⟨by omega, fun _ => ⟨by omega, fun _ => ⟨_, _, _, _, rfl, rfl, rfl, rfl, fun _ _ => rfl, ⟨?_, ?_, ?_, ?_⟩, ?_⟩⟩⟩⟩⟩⟩, fun hi => ?_⟩
        · simp only [List.getD_cons_zero]; omega
        · simp only [List.getD_cons_zero]; omega
        · simp only [List.getD_cons_zero, List.getD_cons_succ]
        · simp only [List.getD_cons_zero]
          intro j hj
          simp only [updF]
          by_cases hji : j = i.toNat
          · rw [if_pos hji, hji]
          · rw [if_neg hji]
            exact hB j (by omega)
        · simp only [List.getD_cons_zero]; omega
        · obtain rfl : i = 16 := by omega
          refine ⟨_, whole_meets e he.1 he.2, ?_⟩
          rintro _ _ ⟨rfl, rfl⟩
          refine ⟨rowS (Lib.itoa e), strV_row _, rfl, by omega, fun _ => ⟨by omega, fun _ => ⟨by omega, fun _ => ⟨by omega, fun _ => ⟨_, rhex_own A B hA (fun j hj => hB j (by omega)) v2, ?_⟩⟩⟩⟩⟩
          rintro _ _ ⟨rfl, rfl⟩
          refine ⟨rowS (hexS (idL A)), strV_row _, rfl, by omega, fun _ => ⟨by omega, fun _ => ⟨by omega, fun _ => ⟨by omega, fun _ => ⟨by omega, fun _ => ⟨_, rhex_meets v l (by omega), ?_⟩⟩⟩⟩⟩⟩
          rintro _ _ ⟨rfl, rfl⟩
          refine ⟨rowS (hexS l), strV_row _, rfl, by omega, fun _ => ⟨by omega, fun _ => ⟨by omega, fun _ => ?_⟩⟩⟩
          refine str_eq (s := [121, 101, 115, 32] ++ Lib.itoa e ++ [32] ++ hexS (idL A) ++ [32] ++ hexS l) ?_ ?_
          · exact Sd.cat (Sd.cat (Sd.cat (Sd.cat (Sd.cat (Sd.lit _ _ (lit_row _ _ _ rfl rfl)) (Sd.row _)) (Sd.lit _ _ (lit_row _ _ _ rfl rfl))) (Sd.row _)) (Sd.lit _ _ (lit_row _ _ _ rfl rfl))) (Sd.row _)
          · simp [tellS, isS]
      · obtain rfl : q = false := by simpa using h
        refine ⟨fun x => 0 ≤ x.i.getD 0 0 ∧ x.i.getD 0 0 ≤ 16 ∧ x.i.getD 1 0 = x.i.getD 0 0 ∧ ∀ j : Nat, (j : Int) < x.i.getD 0 0 → (x.a.getD 0 fun _ => 0) j = A j, fun x => (16 - x.i.getD 0 0).toNat,
          ⟨⟨.slice none 0 0, rfl⟩, 0, 0, fun _ => 0, rfl, rfl, rfl, rfl, fun _ _ => rfl, by simp, by simp, rfl, fun j hj => by simp at hj; omega⟩, ?_⟩
        rintro v2 i m B ⟨hi0, hi1, hm, hB⟩
        simp only [List.getD_cons_zero, List.getD_cons_succ] at hi0 hi1 hm hB
        obtain rfl := hm.symm
        refine ⟨fun hi => ⟨hi0, fun _ => fun _ => ⟨hi0, fun _ => ⟨by omega, fun _ => fun v3 => ⟨by omega, fun _ => ⟨by omega, fun _ => ⟨_, _, _, _, rfl, rfl, rfl, rfl, fun _ _ => rfl, ⟨?_, ?_, ?_, ?_⟩, ?_⟩⟩⟩⟩⟩⟩, fun hi => ?_⟩
        · simp only [List.getD_cons_zero]; omega
        · simp only [List.getD_cons_zero]; omega
        · simp only [List.getD_cons_zero, List.getD_cons_succ]
        · simp only [List.getD_cons_zero]
          intro j hj
          simp only [updF]
          by_cases hji : j = i.toNat
          · rw [if_pos hji, hji]
          · rw [if_neg hji]
            exact hB j (by omega)
        · simp only [List.getD_cons_zero]; omega
        · obtain rfl : i = 16 := by omega
          refine ⟨_, whole_meets e he.1 he.2, ?_⟩
          rintro _ _ ⟨rfl, rfl⟩
          refine ⟨rowS (Lib.itoa e), strV_row _, rfl, by omega, fun _ => ⟨by omega, fun _ => ⟨by omega, fun _ => ⟨by omega, fun _ => ⟨_, rhex_own A B hA (fun j hj => hB j (by omega)) v2, ?_⟩⟩⟩⟩⟩
          rintro _ _ ⟨rfl, rfl⟩
          refine ⟨rowS (hexS (idL A)), strV_row _, rfl, by omega, fun _ => ⟨by omega, fun _ => ⟨by omega, fun _ => ⟨by omega, fun _ => ⟨by omega, fun _ => ⟨_, rhex_meets v l (by omega), ?_⟩⟩⟩⟩⟩⟩
          rintro _ _ ⟨rfl, rfl⟩
          refine ⟨rowS (hexS l), strV_row _, rfl, by omega, fun _ => ⟨by omega, fun _ => ⟨by omega, fun _ => ?_⟩⟩⟩
          refine str_eq (s := [110, 111, 32] ++ Lib.itoa e ++ [32] ++ hexS (idL A) ++ [32] ++ hexS l) ?_ ?_
          · exact Sd.cat (Sd.cat (Sd.cat (Sd.cat (Sd.cat (Sd.lit _ _ (lit_row _ _ _ rfl rfl)) (Sd.row _)) (Sd.lit _ _ (lit_row _ _ _ rfl rfl))) (Sd.row _)) (Sd.lit _ _ (lit_row _ _ _ rfl rfl))) (Sd.row _)
          · simp [tellS, isS]
  exact Meets.lookIn (wr_one _ _) hr _ (view_kept hb _ (by simp))
end Go.RX.Sq

namespace Go.RX.Sq
open Go Go.RX Go.Proofs Go.RX.Ln Go.RX.Lp Go.RX.Lf Go.RX.Sp Go.RowKit
variable {w0 : World} {n0 : Nat}

theorem bstring0 (b : Nat) (A : Nat → Int) : Meets Tryz.prog 47 [.pointer (some ⟨b, 0, none⟩)] [bldHP b 93 5 (segCells .u8 0 A)] fun x hs => x = strV [] ∧ hs = [] := by
  refine Au.meets_drop rfl fun w S hS => ?_
  obtain ⟨p, v, hbk, _, hown, hne, hSS⟩ := hS
  have fin : ∀ {w' : World}, Below w.heap.size w w' → Same w w' ∧ ∀ k, k < w.heap.size → ¬ S k → w'.heap[k]? = w.heap[k]? := fun {w'} h => ⟨⟨h.os, h.tape, h.output, h.size⟩, fun k hk _ => h.block k hk⟩
  rcases hown.2 with ⟨rfl, _⟩ | ⟨g, cap, cur, rfl, hbg, hg, _, _, _, _⟩
  · exact (Any.Builder_String_nil Tryz.lays169 Tryz.Builder_Extra_169 w.heap.size b p w hbk).mono fun e w' ⟨he, hb⟩ => ⟨he, fin hb⟩
  · by_cases hc0 : cap = 0
    · subst hc0
      exact (Any.Builder_String_noroom Tryz.lays169 Tryz.Builder_Extra_169 w.heap.size b g p cur w (Nat.le_refl _) hbk hg).mono fun e w' ⟨he, hb⟩ => ⟨he, fin hb⟩
    · exact (Any.Builder_String_room Tryz.lays169 Tryz.Builder_Extra_169 w.heap.size b g cap p w hc0 hbk).mono fun e w' ⟨he, hb⟩ => ⟨he, fin hb⟩
theorem bytes_back (acc : List UInt8) (A : Nat → Int) (h : ∀ j, j < acc.length → A j = bytesF acc j) : ((List.range acc.length).map fun j => UInt8.ofNat (A j).toNat) = acc := by
  apply List.ext_getElem
  · simp
  · intro j h1 h2
    have hj : j < acc.length := by simpa using h1
    simp only [List.getElem_map, List.getElem_range]
    rw [h j hj]
    unfold bytesF
    rw [List.getD_eq_getElem?_getD, List.getElem?_eq_getElem hj]
    simp
/-- A builder's text. -/
theorem bstring (b : Nat) (acc : List UInt8) (A : Nat → Int) (h : ∀ j, j < acc.length → A j = bytesF acc j) : Meets Tryz.prog 47 [.pointer (some ⟨b, 0, none⟩)] [bldHP b 93 5 (segCells .u8 acc.length A)] fun x hs => x = strV acc ∧ hs = [] := by
  by_cases h0 : acc.length = 0
  · have := List.eq_nil_of_length_eq_zero h0
    subst this
    exact bstring0 b A
  · have := bstring_meets b acc.length A (by omega) (fun j hj => by rw [h j hj]; exact bytesF_range acc j)
    rw [bytes_back acc A h] at this
    exact this
theorem law_meets (hL : Laid0 w0 n0) (v v1 : V1) {M : Mv} (h : MvOk n0 w0 M) (hn : M.n ≤ 9223372036854775807) (hlen : ∀ i, i < M.n → (M.B i).length ≤ 9223372036854775807)
    (q : Bool) (e : Int) (A : Nat → Int) (l : List UInt8) (he : -9223372036854775808 ≤ e ∧ e ≤ 9223372036854775807) (hA : ∀ j, j < 16 → 0 ≤ A j ∧ A j ≤ 255) (hb : BV n0 w0 v1 l) :
    Meets Tryz.prog 4 [v.v, resV q e A v1] [keptHP n0 w0, sliM v M, sliB v1 l] fun x _ => x = .bool true := by
  have := Meets.of_runE (C := cx) (cnt := { i := 3, a := 9, p := 1, v := 2, bo := 1 }) (ρ := { iv := [(M.n : Int), e, (l.length : Int)], av := [M.A 0, M.A 1, M.A 2, M.A 3, M.A 4, M.A 5, M.A 6, A, bytesF l], bo := [q], vv := [v, v1], va := [M.V], pv := [keptHP n0 w0] }) okT okFT okM Tryz.func4 (by constructor <;> rfl) (Post := fun x _ => x = .bool true)
    (args := [.vv 0, .agg [.bool (.var 0), .int .i64 (.var 1), .seg .u8 16 (.avar 7), .vv 1]]) (hp := hpM ++ [.sli false 1 5 1 (.var 2) [⟨.int .u8, 1, .avar 8⟩]]) run_law (vc_law Tryz.prog (fun x _ => x = .bool true) M.n e l.length (M.A 0) (M.A 1) (M.A 2) (M.A 3) (M.A 4) (M.A 5) (M.A 6) A (bytesF l) q v v1 M.V (keptHP n0 w0) (fun _ => LC.none)) ?_ (pureOk cx rfl)
  · exact this
  · have hempty : strD (rowLF [0]) = [] := rfl
    unfold st_law
    intro _
    refine ⟨_, heavy_meets v h hn hlen, ?_⟩
    rintro _ _ ⟨⟨hv, rfl, hsm⟩, rfl⟩
    refine ⟨hv, rfl, rfl, by omega, fun _ => ⟨fun _ => rfl, fun hh => ?_⟩⟩
    have hvf : hv = false := by
      cases hv with
      | true => exact absurd (Or.inl rfl) hh
      | false => rfl
    have hs := hsm hvf
    have hl3 : l.length ≤ 3000 := by omega
    -- the two texts of an answer
    have tells : ∀ (c : Bool), c = true → ∃ post, Meets Tryz.prog 19 [resV q e A v1] [keptHP n0 w0] post ∧ ∀ x hs, post x hs → ∃ A11 : (Nat → Int), x = .string ⟨(strD A11).toArray⟩ ∧ hs = [keptHP n0 w0] ∧
        ∃ post, Meets Tryz.prog 20 [(if c then resV q e A v1 else undef)] [keptHP n0 w0] post ∧ ∀ x hs, post x hs → ∃ A12 : (Nat → Int), x = .string ⟨(strD A12).toArray⟩ ∧ hs = [keptHP n0 w0] ∧ Value.bool (strD A11 == strD A12) = .bool true := by
      intro c hc
      refine ⟨_, tell_meets hL q e A l v1 he hA (by omega) hb, ?_⟩
      rintro _ _ ⟨rfl, rfl⟩
      refine ⟨rowS (tellS q e (idL A) l), strV_row _, rfl, ?_⟩
      rw [if_pos hc]
      refine ⟨_, rtell_meets q e A l v1 he hA (by omega) hb, ?_⟩
      rintro _ _ ⟨rfl, rfl⟩
      refine ⟨rowS (tellS q e (idL A) l), strV_row _, rfl, ?_⟩
      simp
    refine ⟨by omega, fun _ => ?_⟩
    refine ⟨fun e => 0 ≤ e.i.getD 0 0, fun e => ((M.n : Int) - e.i.getD 0 0).toNat, ⟨0, rfl, by simp⟩, ?_⟩
    rintro i hi0
    simp only [List.getD_cons_zero] at hi0
    refine ⟨fun hi => ⟨hi0, fun _ => fun _ => ?_⟩, fun hi => ?_⟩
    · have hit : i.toNat < M.n := by omega
      refine ⟨_, plineAt hL h hs hit, ?_⟩
      rintro _ _ ⟨rfl, rfl⟩
      refine ⟨rowS (lineAt M i.toNat), !(lineAt M i.toNat).isEmpty, by unfold lineV; rw [strV_row], rfl, _, rlineAt h hs hit, ?_⟩
      rintro _ _ ⟨rfl, rfl⟩
      refine ⟨rowS (lineAt M i.toNat), strV_row _, rfl, ?_⟩
      rw [strD_rowS, hempty]
      refine ⟨fun hbad => ?_, fun _ => ⟨by omega, fun _ => ⟨by omega, fun _ => ⟨_, rfl, ?_, ?_⟩⟩⟩⟩
      · exfalso
        rcases hbad with hbad | hbad
        · exact hbad rfl
        · apply hbad
          cases hq : lineAt M i.toNat <;> simp
      · simp only [List.getD_cons_zero]; omega
      · simp only [List.getD_cons_zero]; omega
    · intro _ _ _ b4 _ _ _ _
      refine ⟨by omega, fun _ => ?_⟩
      refine ⟨fun e => 0 ≤ e.i.getD 0 0 ∧ e.i.getD 0 0 ≤ M.n ∧ e.i.getD 1 0 = e.i.getD 0 0 ∧ ∃ acc : List UInt8, e.i.getD 2 0 = acc.length ∧ (∀ j, j < acc.length → (e.a.getD 0 fun _ => 0) j = bytesF acc j) ∧ acc.length ≤ 262144 ∧ e.i.getD 0 0 ≤ 1000 ∧ prG (e.i.getD 0 0).toNat acc ((linesOf M).drop (e.i.getD 0 0).toNat) = prG 0 [] (linesOf M), fun e => ((M.n : Int) - e.i.getD 0 0).toNat,
        ⟨0, 0, 0, fun _ => 0, rfl, rfl, fun _ _ => rfl, rfl, by simp, by simp, rfl, [], rfl, fun j hj => by simp at hj, by simp, by simp, rfl⟩, ?_⟩
      rintro i m k B ⟨hi0, hi1, hm, acc, hk, hB, hacc, hi2, hG⟩
      simp only [List.getD_cons_zero, List.getD_cons_succ] at hi0 hi1 hm hk hB hi2 hG
      obtain rfl := hm.symm
      refine ⟨fun hi => ⟨hi0, fun _ => fun _ _ => ⟨by omega, fun _ => ⟨by omega, fun _ => ⟨fun h1000 => ?_, fun h1000 => ?_⟩⟩⟩⟩, fun hi => ?_⟩
      · have hit : i.toNat < M.n := by omega
        rw [lines_drop M hit, prG, if_pos (by omega)] at hG
        refine ⟨_, rprint_meets v h hs hn, ?_⟩
        rintro _ _ ⟨rfl, rfl⟩
        rw [← hG]
        refine ⟨3, rowS [], by unfold prV; rw [strV_row], rfl, fun hc => ?_, fun hc => absurd ⟨by rw [strD_rowS]; rfl, rfl⟩ hc⟩
        exact tells _ (by rw [strD_rowS, hempty]; rfl)
      · have hit : i.toNat < M.n := by omega
        rw [lines_drop M hit, prG, if_neg (by omega)] at hG
        refine ⟨_, plineAt hL h hs hit, ?_⟩
        rintro _ _ ⟨rfl, rfl⟩
        refine ⟨rowS (lineAt M i.toNat), !(lineAt M i.toNat).isEmpty, by unfold lineV; rw [strV_row], rfl, fun hne => ?_, fun hne => ?_⟩
        · have he0 : lineAt M i.toNat = [] := by
            cases hq : lineAt M i.toNat with
            | nil => rfl
            | cons a b => rw [hq] at hne; exact absurd rfl hne
          rw [if_pos he0] at hG
          refine ⟨_, rprint_meets v h hs hn, ?_⟩
          rintro _ _ ⟨rfl, rfl⟩
          rw [← hG]
          refine ⟨2, rowS [], by unfold prV; rw [strV_row], rfl, fun hc => ?_, fun hc => absurd ⟨by rw [strD_rowS]; rfl, rfl⟩ hc⟩
          exact tells _ (by rw [strD_rowS, hempty]; rfl)
        · have he0 : lineAt M i.toNat ≠ [] := by
            intro hq
            rw [hq] at hne
            exact hne (by decide)
          rw [if_neg he0] at hG
          have hll := line_len (M.A 0 i.toNat).toNat (h.rg hs hit)
          change (lineAt M i.toNat).length ≤ 30000000 at hll
          have l0 := rowS0 (lineAt M i.toNat)
          refine ⟨by omega, fun _ => ⟨by omega, fun _ => ⟨by omega, fun _ => ⟨by omega, fun _ => ⟨by omega, fun _ => ⟨by omega, fun _ => ⟨fun h3 => ?_, fun h3 => ?_⟩⟩⟩⟩⟩⟩⟩
          · rw [if_pos (by omega)] at hG
            refine ⟨_, rprint_meets v h hs hn, ?_⟩
            rintro _ _ ⟨rfl, rfl⟩
            rw [← hG]
            refine ⟨3, rowS [], by unfold prV; rw [strV_row], rfl, fun hc => ?_, fun hc => absurd ⟨by rw [strD_rowS]; rfl, rfl⟩ hc⟩
            exact tells _ (by rw [strD_rowS, hempty]; rfl)
          · rw [if_neg (by omega)] at hG
            refine ⟨by omega, fun _ => ⟨by omega, fun _ => ⟨_, _, _, _, rfl, rfl, fun _ _ => rfl, rfl, ⟨?_, ?_, ?_, acc ++ lineAt M i.toNat ++ [10], ?_, ?_, ?_, ?_, ?_⟩, ?_⟩⟩⟩
            · simp only [List.getD_cons_zero]; omega
            · simp only [List.getD_cons_zero]; omega
            · simp only [List.getD_cons_zero, List.getD_cons_succ]
            · simp only [List.getD_cons_zero, List.getD_cons_succ, List.length_append, List.length_singleton]; omega
            · simp only [List.getD_cons_zero]
              intro j hj
              simp only [List.length_append, List.length_singleton] at hj
              have hsd : Sd (catF (rowS (lineAt M i.toNat)) (rowLF [1, 10])) (lineAt M i.toNat ++ [10]) := Sd.cat (Sd.row _) (Sd.lit _ _ (lit_row _ _ _ rfl rfl))
              simp only [splF]
              by_cases hjk : j < acc.length
              · rw [if_neg (by omega), hB j hjk]
                unfold bytesF
                rw [List.getD_eq_getElem?_getD, List.getD_eq_getElem?_getD, List.append_assoc, List.getElem?_append_left hjk]
              · rw [if_pos (by omega)]
                have hlt : j - k.toNat < ((catF (rowS (lineAt M i.toNat)) (rowLF [1, 10])) 0).toNat := by
                  rw [sd_len hsd]
                  simp only [List.length_append, List.length_singleton]
                  omega
                have hg := strD_get _ hlt
                rw [hsd.1] at hg
                unfold bytesF
                rw [List.getD_eq_getElem?_getD, List.append_assoc, List.getElem?_append_right (by omega), show j - acc.length = j - k.toNat by omega]
                cases hq : (lineAt M i.toNat ++ [10])[j - k.toNat]? with
                | none => rw [hq] at hg; cases hg
                | some y =>
                  rw [hq] at hg
                  simpa using hg.symm
            · simp only [List.length_append, List.length_singleton]; omega
            · simp only [List.getD_cons_zero]; omega
            · simp only [List.getD_cons_zero]
              rw [show (i + 1).toNat = i.toNat + 1 by omega]
              exact hG
            · simp only [List.getD_cons_zero]; omega
      · rw [List.drop_eq_nil_of_le (by simp [linesOf]; omega), prG] at hG
        have hkn : k.toNat = acc.length := by omega
        rw [hkn]
        refine ⟨_, bstring b4 acc B hB, ?_⟩
        rintro _ _ ⟨rfl, rfl⟩
        refine ⟨rowS acc, strV_row _, rfl, _, rprint_meets v h hs hn, ?_⟩
        rintro _ _ ⟨rfl, rfl⟩
        rw [← hG]
        refine ⟨0, rowS acc, by unfold prV; rw [strV_row], rfl, fun hc => ?_, fun hc => absurd ⟨rfl, rfl⟩ hc⟩
        exact tells _ (by simp)
end Go.RX.Sq

namespace Go.RX.Sq
open Go Go.RX Go.Proofs Go.RX.Ln Go.RX.Sp Go.RowKit

section
variable {H : Type} {enc : TypeId × Value → H} {P : Program} {w : World} {base : Nat} {spare : Nat → Bool} {held : Bool}
/-- A struct of numbers, bytes behind them. -/
theorem open_withB {t e n m i fuel : Nat} {fs : Array Field} {fB : Field} {ks : List (Option IntKind)} {cs : List Value} {x : DataW H × List MemPlace}
    (ht : P.underlying t = some (.struct fs)) (hi : fs[i]? = some fB) (hks : flatF P (flatA P n) (fs.toList.take i) 0 = some ks) (hoff : fB.offset = ks.length)
    (hB : P.underlying fB.type = some (.slice e)) (he : flatA P m e = some [some .u8]) (hce : P.cellsOf e = 1) (hcB : P.cellsOf fB.type = 1) (h : DataW.trod enc P w base spare held fuel t cs = some x) :
    ∃ (F : Nat → Int) (a : Option Addr) (len cap : Nat) (G : Nat → Nat → Int), (∀ (j : Nat) k, ks[j]? = some k → cs[j]? = some (cellV k (F j)) ∧ cellWf k (F j)) ∧ cs[ks.length]? = some (.slice a len cap) ∧ IsTab [some .u8] w a len cap G := by
  obtain ⟨ys, n', _, _, _, hyl, hf⟩ := DataW.trod_struct ht h
  have hall : ∀ f ∈ fs.toList, ∃ n x, DataW.trod enc P w base spare held n f.type ((cs.drop f.offset).take (P.cellsOf f.type)) = some x := by
    intro f hf'
    obtain ⟨j, hj⟩ := List.getElem?_of_mem hf'
    have hj' : fs[j]? = some f := by rw [← hj, Array.getElem?_toList]
    have hjl : j < fs.size := (Array.getElem?_eq_some_iff.1 hj').1
    exact ⟨n', ys[j]'(by omega), (hf j f hj').trans (List.getElem?_eq_getElem _)⟩
  have h1 := flatF_trod (enc := enc) (w := w) (base := base) (spare := spare) (held := held) (cs := cs) (fun t ks cs' h1 h2 => flatA_trod (n := n) h1 h2) hks (fun f hf' => hall f (List.mem_of_mem_take hf'))
  have key : ∀ j : Nat, ∃ z : Int, ∀ k, ks[j]? = some k → cs[j]? = some (cellV k z) ∧ cellWf k z := by
    intro j
    cases hk : ks[j]? with
    | none => exact ⟨0, fun k h => by cases h⟩
    | some k =>
      obtain ⟨v, hv, z, rfl, hz⟩ := h1 j k hk
      refine ⟨z, fun k' h => ?_⟩
      cases h
      exact ⟨by simpa using hv, hz⟩
  obtain ⟨mB, xB, hxB⟩ := hall fB (by rw [← Array.getElem?_toList] at hi; exact List.mem_of_getElem? hi)
  obtain ⟨a, len, cap, G, hcs, hT⟩ := open_tabA (ks := [some .u8]) hB he hce hxB
  refine ⟨fun j => (key j).choose, a, len, cap, G, fun j k hk => (key j).choose_spec k hk, ?_, hT⟩
  rw [hoff, hcB] at hcs
  have := congrArg (fun l : List Value => l[0]?) hcs
  simp only [List.getElem?_take, List.getElem?_drop, Nat.add_zero] at this
  simpa using this
end
def tabBytes (len : Nat) (G : Nat → Nat → Int) : List UInt8 := (List.range len).map fun i => UInt8.ofNat (G i 0).toNat
theorem tab_wf {w : World} {a : Option Addr} {len cap : Nat} {G : Nat → Nat → Int} (h : IsTab [some .u8] w a len cap G) (i : Nat) (hi : i < len) : 0 ≤ G i 0 ∧ G i 0 ≤ 255 := by
  rcases h with ⟨_, h, _⟩ | ⟨x, _, _, _, hc⟩
  · omega
  · have := (hc i hi 0 (some .u8) rfl).2
    simp [cellWf, Lit.wf, IntKind.min, IntKind.max, IntKind.signed, IntKind.bits] at this
    omega
theorem bv_of_tab {w : World} {a : Option Addr} {len cap : Nat} {G : Nat → Nat → Int} (h : IsTab [some .u8] w a len cap G) : BV w.heap.size w ⟨.slice a len cap, rfl⟩ (tabBytes len G) := by
  have hl : (tabBytes len G).length = len := by simp [tabBytes]
  have hw := fun i hi => tab_wf h i hi
  refine ⟨⟨a, len, cap, rfl, by rw [hl], ?_, ?_, ?_⟩, ?_⟩
  · rcases h with ⟨_, rfl, rfl⟩ | ⟨x, _, h, _⟩
    · exact Nat.le_refl _
    · exact h
  · rintro rfl
    rcases h with ⟨_, h, _⟩ | ⟨x, h, _⟩
    · rw [hl]; exact h
    · cases h
  · rintro ad rfl
    rcases h with ⟨h, _⟩ | ⟨x, h, hlc, _, hc⟩
    · cases h
    · cases h
      constructor
      · intro hpos
        rw [hl] at hpos
        have h0 := (hc 0 hpos 0 (some .u8) rfl).1
        rw [Nat.zero_mul, Nat.zero_add, addr_add_zero] at h0
        exact World.cell?_spot h0
      · intro j u hu
        rw [cellsB_seg, hl, segCells_getElem?] at hu
        split at hu
        · rename_i hj
          cases hu
          have := (hc j hj 0 (some .u8) rfl).1
          simp only [List.length_cons, List.length_nil, Nat.zero_add, Nat.mul_one, Nat.add_zero] at this
          rw [this]
          have hb : bytesF (tabBytes len G) j = G j 0 := by
            unfold bytesF tabBytes
            have := hw j hj
            rw [List.getD_eq_getElem?_getD, List.getElem?_map, List.getElem?_range hj]
            simp only [Option.map_some, Option.getD_some, UInt8.toNat_ofNat']
            omega
          rw [hb]
          rfl
        · cases hu
  · intro k hk hpos
    rw [hl] at hpos
    rcases h with ⟨rfl, rfl, _⟩ | ⟨x, rfl, hlc, _, hc⟩
    · omega
    · simp only [Value.ownBlock, Option.some.injEq] at hk
      subst hk
      have := World.block_lt_of_cell? w _ (hc 0 hpos 0 (some .u8) rfl).1
      rw [Nat.zero_mul, Nat.zero_add, addr_add_zero] at this
      exact this
theorem flat8 (f : Nat → List Value) (hf : ∀ i, (f i).length = 8) : ∀ n : Nat, ((List.range n).flatMap f).length = n * 8 ∧ ∀ (m : Nat) u, ((List.range n).flatMap f)[m]? = some u → ∃ i j, i < n ∧ m = i * 8 + j ∧ (f i)[j]? = some u
  | 0 => ⟨rfl, fun m u h => by simp at h⟩
  | n + 1 => by
    obtain ⟨h1, h2⟩ := flat8 f hf n
    have e : (List.range (n + 1)).flatMap f = (List.range n).flatMap f ++ f n := by simp [List.range_succ, List.flatMap_append]
    rw [e]
    refine ⟨by rw [List.length_append, h1, hf]; omega, fun m u h => ?_⟩
    by_cases hm : m < ((List.range n).flatMap f).length
    · rw [List.getElem?_append_left hm] at h
      obtain ⟨i, j, q1, q2, q3⟩ := h2 m u h
      exact ⟨i, j, by omega, q2, q3⟩
    · rw [List.getElem?_append_right (by omega)] at h
      refine ⟨n, _, by omega, ?_, h⟩
      rw [h1] at hm ⊢
      omega
theorem mv_cells (M : Mv) : M.cells = (List.range M.n).flatMap fun i => [.int .u8 (M.A 0 i), .int .u8 (M.A 1 i), .int .u8 (M.A 2 i), .int .u8 (M.A 3 i), .int .u8 (M.A 4 i), .int .i64 (M.A 5 i), .int .u64 (M.A 6 i), (M.V i).v] := by
  unfold Mv.cells tabL
  have h1 : List.range 1 = [0] := rfl
  simp [colI, colV, segCells, h1]
/-- A slice of moves that came in. -/
structure IsMv (w : World) (a : Option Addr) (cap : Nat) (M : Mv) : Prop where
  nil : a = none → M.n = 0
  le : M.n ≤ cap
  cap : cap ≤ maxLen
  at_ : ∀ x, a = some x → ∀ i, i < M.n → ∀ (j : Nat) u, [(.int .u8 (M.A 0 i) : Value), .int .u8 (M.A 1 i), .int .u8 (M.A 2 i), .int .u8 (M.A 3 i), .int .u8 (M.A 4 i), .int .i64 (M.A 5 i), .int .u64 (M.A 6 i), (M.V i).v][j]? = some u → w.cell? (x.add (i * 8 + j)) = some u
theorem mv_p {w : World} {a : Option Addr} {cap : Nat} {M : Mv} (h : IsMv w a cap M) : (sliM ⟨.slice a M.n cap, rfl⟩ M).p w (fun k => (Value.slice a M.n cap).ownBlock = some k ∧ 0 < M.n) ∧ ∀ k, ((Value.slice a M.n cap).ownBlock = some k ∧ 0 < M.n) → k < w.heap.size := by
  have f8 := flat8 (fun i => [(.int .u8 (M.A 0 i) : Value), .int .u8 (M.A 1 i), .int .u8 (M.A 2 i), .int .u8 (M.A 3 i), .int .u8 (M.A 4 i), .int .i64 (M.A 5 i), .int .u64 (M.A 6 i), (M.V i).v]) (fun _ => rfl) M.n
  rw [← mv_cells] at f8
  refine ⟨⟨?_, fun k => by simp⟩, ?_⟩
  · simp only [Bool.false_eq_true, if_false]
    refine ⟨f8.1, a, M.n, cap, rfl, rfl, h.le, h.nil, fun ad had => ⟨fun hpos => ?_, fun m u hu => ?_⟩⟩
    · have h0 := h.at_ ad had 0 hpos 0 _ rfl
      rw [Nat.zero_mul, Nat.zero_add, addr_add_zero] at h0
      exact World.cell?_spot h0
    · obtain ⟨i, j, q1, rfl, q3⟩ := f8.2 m u hu
      exact h.at_ ad had i q1 j u q3
  · rintro k ⟨hk, hpos⟩
    cases a with
    | none => simp [Value.ownBlock] at hk
    | some x =>
      simp only [Value.ownBlock, Option.some.injEq] at hk
      subst hk
      have := World.block_lt_of_cell? w _ (h.at_ x rfl 0 hpos 0 _ rfl)
      rw [Nat.zero_mul, Nat.zero_add, addr_add_zero] at this
      exact this
def mvKs : List (Option IntKind) := [some .u8, some .u8, some .u8, some .u8, some .u8, some .i64, some .u64]
theorem mv_struct : Tryz.prog.underlying 39 = some (.struct #[{ name := "Kind", type := 5, offset := 0, embedded := false, tag := "", pkgPath := "", byteOffset := 0 }, { name := "Dev", type := 35, offset := 1, embedded := false, tag := "", pkgPath := "", byteOffset := 1 }, { name := "Peer", type := 35, offset := 3, embedded := false, tag := "", pkgPath := "", byteOffset := 3 }, { name := "N", type := 3, offset := 5, embedded := false, tag := "", pkgPath := "", byteOffset := 8 }, { name := "Code", type := 36, offset := 6, embedded := false, tag := "", pkgPath := "", byteOffset := 16 }, { name := "B", type := 37, offset := 7, embedded := false, tag := "", pkgPath := "", byteOffset := 24 }]) := by kernel_rfl
theorem wf_i (k : IntKind) (z lo hi : Int) (h : cellWf (some k) z) (hlo : k.min = lo) (hhi : k.max = hi) : lo ≤ z ∧ z ≤ hi := by
  simp [cellWf, Lit.wf] at h
  omega
theorem open_mv {H : Type} {enc : TypeId × Value → H} {w : World} {base : Nat} {spare : Nat → Bool} {held : Bool} {fuel : Nat} {cs : List Value} {x : DataW H × List MemPlace} (h : DataW.trod enc Tryz.prog w base spare held fuel 23 cs = some x) :
    ∃ a cap M, cs = [.slice a M.n cap] ∧ IsMv w a cap M ∧ MvOk w.heap.size w M ∧ ∀ i, i < M.n → (M.B i).length ≤ maxLen := by
  rcases DataW.trod_slice Tryz.underlying23 h with ⟨rfl, _⟩ | ⟨a, len, cap, elems, rest, m, _, rfl, _, hb, hl, hm, hlen, hel, _, _⟩
  · exact ⟨none, 0, ⟨0, fun _ _ => 0, fun _ => V1.nil, fun _ => []⟩, rfl, ⟨fun _ => rfl, Nat.le_refl _, Nat.zero_le _, fun _ h => nomatch h⟩, ⟨fun _ h => absurd h (Nat.not_lt_zero _), fun _ _ h => absurd h (Nat.not_lt_zero _), fun _ h => absurd h (Nat.not_lt_zero _), fun _ h => absurd h (Nat.not_lt_zero _)⟩, fun _ h => absurd h (Nat.not_lt_zero _)⟩
  have key : ∀ i, ∃ (F : Nat → Int) (b : Option Addr) (bl bc : Nat) (G : Nat → Nat → Int), i < len → (∀ (j : Nat) k, mvKs[j]? = some k → w.cell? (a.add (i * 8 + j)) = some (cellV k (F j)) ∧ cellWf k (F j)) ∧ w.cell? (a.add (i * 8 + 7)) = some (.slice b bl bc) ∧ IsTab [some .u8] w b bl bc G := by
    intro i
    by_cases hi : i < len
    · have h1 := hel i hi
      have hg : elems[i]? = some (elems[i]'(by omega)) := List.getElem?_eq_getElem (by omega)
      rw [hg, Option.bind_eq_some_iff] at h1
      obtain ⟨cs', hcs, htr⟩ := h1
      obtain ⟨F, b, bl, bc, G, q1, q2, q3⟩ := open_withB (i := 5) (n := 4) (m := 4) (ks := mvKs) mv_struct rfl (by kernel_rfl) rfl Tryz.underlying37 (by kernel_rfl) (by kernel_rfl) (by kernel_rfl) htr
      obtain ⟨_, hcl, hat⟩ := World.cells?_some hcs
      have hc8 : Tryz.prog.cellsOf 39 = 8 := by kernel_rfl
      rw [hc8] at hat
      refine ⟨F, b, bl, bc, G, fun _ => ⟨fun j k hk => ?_, ?_, q3⟩⟩
      · have hj : j < 7 := (List.getElem?_eq_some_iff.1 hk).1
        have := hat j (by omega)
        rw [(q1 j k hk).1, addr_add_add] at this
        exact ⟨this, (q1 j k hk).2⟩
      · have := hat 7 (by omega)
        rw [show cs'[7]? = some (.slice b bl bc) from q2, addr_add_add] at this
        exact this
    · exact ⟨fun _ => 0, none, 0, 0, fun _ _ => 0, fun h => absurd h hi⟩
  obtain ⟨F, hF⟩ := Classical.axiomOfChoice key
  obtain ⟨b, hF⟩ := Classical.axiomOfChoice hF
  obtain ⟨bl, hF⟩ := Classical.axiomOfChoice hF
  obtain ⟨bc, hF⟩ := Classical.axiomOfChoice hF
  obtain ⟨G, hF⟩ := Classical.axiomOfChoice hF
  refine ⟨some a, cap, ⟨len, fun j i => F i j, fun i => ⟨.slice (b i) (bl i) (bc i), rfl⟩, fun i => tabBytes (bl i) (G i)⟩, rfl, ⟨fun h => (nomatch h), hl, hm, ?_⟩, ⟨fun i hi => bv_of_tab (hF i hi).2.2, ?_, ?_, ?_⟩, ?_⟩
  · rintro _ ⟨⟩ i hi j u hu
    obtain ⟨q1, q2, _⟩ := hF i hi
    match j, hu with
    | 0, hu => cases hu; exact (q1 0 _ rfl).1
    | 1, hu => cases hu; exact (q1 1 _ rfl).1
    | 2, hu => cases hu; exact (q1 2 _ rfl).1
    | 3, hu => cases hu; exact (q1 3 _ rfl).1
    | 4, hu => cases hu; exact (q1 4 _ rfl).1
    | 5, hu => cases hu; exact (q1 5 _ rfl).1
    | 6, hu => cases hu; exact (q1 6 _ rfl).1
    | 7, hu => cases hu; exact q2
    | j + 8, hu => simp at hu
  · intro i j hi hj
    obtain ⟨q1, _, _⟩ := hF i hi
    have : mvKs[j]? = some (some .u8) := by
      have : j = 0 ∨ j = 1 ∨ j = 2 ∨ j = 3 ∨ j = 4 := by omega
      rcases this with rfl | rfl | rfl | rfl | rfl <;> rfl
    exact wf_i .u8 _ 0 255 (q1 j _ this).2 (by decide) (by decide)
  · intro i hi
    exact wf_i .i64 _ _ _ ((hF i hi).1 5 _ rfl).2 (by decide) (by decide)
  · intro i hi
    exact wf_i .u64 _ _ _ ((hF i hi).1 6 _ rfl).2 (by decide) (by decide)
  · intro i hi
    have : (tabBytes (bl i) (G i)).length = bl i := by simp [tabBytes]
    show (tabBytes (bl i) (G i)).length ≤ maxLen
    rw [this]
    rcases (hF i hi).2.2 with ⟨_, h, _⟩ | ⟨x, _, h1, h2, _⟩
    · rw [h]; exact Nat.zero_le _
    · omega
end Go.RX.Sq
