/- 'known' of layer 41: what it takes at sight. -/
import Derived.Test.YtgaabcinjbjbgaaGreatDoorAuK0
namespace Go.RX.Au
open Go.Proofs
noncomputable def cx : Ctx := { T := TT, FT := FT, pure := pure1, joins := joins, ghosts := ghosts }
theorem line_meets : Meets Tryz.prog 22 (SV.vals env0 [.agg openF]) [] (fun u hs => u = (SV.tup [.str openS, .bool (.lit true)]).val env0 ∧ hs = []) := Meets.ans (C := cx0) okT okFT okM Tryz.func22 (args := [.agg openF]) (v := .tup [.str openS, .bool (.lit true)]) ((SV.tup [.str openS, .bool (.lit true)]).val env0) (fun _ => rfl) line_ran (pureOk0 TT FT (fun _ _ => none) (fun _ _ => none))
theorem read_meets : Meets Tryz.prog 24 (SV.vals env0 [.str openS]) [] (fun u hs => u = (SV.tup [.agg openF, .int .i64 (.lit 0)]).val env0 ∧ hs = []) := Meets.ans (C := cx0) okT okFT okM Tryz.func24 (args := [.str openS]) (v := .tup [.agg openF, .int .i64 (.lit 0)]) ((SV.tup [.agg openF, .int .i64 (.lit 0)]).val env0) (fun _ => rfl) read_ran (pureOk0 TT FT (fun _ _ => none) (fun _ _ => none))
theorem read_bad_meets : Meets Tryz.prog 24 (SV.vals env0 [.str badS]) [] (fun u hs => u = (SV.tup [.agg zeroF, .int .i64 (.lit 2)]).val env0 ∧ hs = []) := Meets.ans (C := cx0) okT okFT okM Tryz.func24 (args := [.str badS]) (v := .tup [.agg zeroF, .int .i64 (.lit 2)]) ((SV.tup [.agg zeroF, .int .i64 (.lit 2)]).val env0) (fun _ => rfl) read_bad_ran (pureOk0 TT FT (fun _ _ => none) (fun _ _ => none))
theorem pureOk1 : PureOk Tryz.prog cx := by
  intro f args hp r ρ h hvc
  unfold pureRes at h
  simp only [cx] at h
  split at h
  · rename_i g hg
    unfold pure1 at hg
    split at hg
    · cases hg
      unfold pLine at h
      split at h
      · rename_i cs
        split at h
        · rename_i hs
          cases h
          have hv : SV.vals ρ [.agg cs] = SV.vals env0 [.agg openF] := by
            have := litSame_cells (ρ := ρ) hs
            rw [expandR_cells, expandR_cells] at this
            simp only [SV.vals, SV.val, this]
            rfl
          rw [hv]
          exact line_meets
        · cases h
      · cases h
    · cases hg
      unfold pRead at h
      split at h
      · rename_i l
        split at h
        · rename_i hl
          have hl : l = openS := by simpa using hl
          subst hl
          cases h
          exact read_meets
        · split at h
          · rename_i hl
            have hl : l = badS := by simpa using hl
            subst hl
            cases h
            exact read_bad_meets
          · cases h
      · cases h
    · have h0 := pureOk0 TT FT (fun _ _ => none) (fun _ _ => none) f args hp r ρ
      unfold pureRes at h0
      simp only [hg] at h0
      exact h0 h hvc
  · cases h
end Go.RX.Au
