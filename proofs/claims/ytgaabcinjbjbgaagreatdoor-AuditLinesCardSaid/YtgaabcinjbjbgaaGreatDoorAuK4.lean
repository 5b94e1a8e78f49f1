/- 'known' of layer 41 returns true: its branches, part 4. -/
import Derived.Test.YtgaabcinjbjbgaaGreatDoorAuK1
namespace Go.RX.Au
open Go.Proofs
set_option maxRecDepth 100000
theorem k_tttfff : runChk cx 21 Tryz.f21 [true, true, true, false, false, false] = true := by kernel_rfl
theorem k_tttfft : runChk cx 21 Tryz.f21 [true, true, true, false, false, true] = true := by kernel_rfl
theorem k_tttftff : runChk cx 21 Tryz.f21 [true, true, true, false, true, false, false] = true := by kernel_rfl
theorem k_tttftft : runChk cx 21 Tryz.f21 [true, true, true, false, true, false, true] = true := by kernel_rfl
theorem k_tttfttf : runChk cx 21 Tryz.f21 [true, true, true, false, true, true, false] = true := by kernel_rfl
theorem k_tttfttt : runChk cx 21 Tryz.f21 [true, true, true, false, true, true, true] = true := by kernel_rfl
end Go.RX.Au
