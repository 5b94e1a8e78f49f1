/- 'known' of layer 41 returns true: its branches, part 1. -/
import Derived.Test.YtgaabcinjbjbgaaGreatDoorAuPu
namespace Go.RX.Au
open Go.Proofs
set_option maxRecDepth 100000
theorem line_ran : (runF cx0 22 [.agg openF] [] {} Tryz.f22).ans (.tup [.str openS, .bool (.lit true)]) = true := by kernel_rfl
theorem read_ran : (runF cx0 24 [.str openS] [] {} Tryz.f24).ans (.tup [.agg openF, .int .i64 (.lit 0)]) = true := by kernel_rfl
theorem read_bad_ran : (runF cx0 24 [.str badS] [] {} Tryz.f24).ans (.tup [.agg zeroF, .int .i64 (.lit 2)]) = true := by kernel_rfl
end Go.RX.Au
