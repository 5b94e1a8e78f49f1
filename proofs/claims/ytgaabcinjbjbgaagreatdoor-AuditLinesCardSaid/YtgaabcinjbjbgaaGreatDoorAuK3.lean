/- 'known' of layer 41 returns true: its branches, part 3. -/
import Derived.Test.YtgaabcinjbjbgaaGreatDoorAuK1
namespace Go.RX.Au
open Go.Proofs
set_option maxRecDepth 100000
theorem k_ttfff : runChk cx 21 Tryz.f21 [true, true, false, false, false] = true := by kernel_rfl
theorem k_ttfft : runChk cx 21 Tryz.f21 [true, true, false, false, true] = true := by kernel_rfl
theorem k_ttftff : runChk cx 21 Tryz.f21 [true, true, false, true, false, false] = true := by kernel_rfl
theorem k_ttftft : runChk cx 21 Tryz.f21 [true, true, false, true, false, true] = true := by kernel_rfl
theorem k_ttfttf : runChk cx 21 Tryz.f21 [true, true, false, true, true, false] = true := by kernel_rfl
theorem k_ttfttt : runChk cx 21 Tryz.f21 [true, true, false, true, true, true] = true := by kernel_rfl
end Go.RX.Au
