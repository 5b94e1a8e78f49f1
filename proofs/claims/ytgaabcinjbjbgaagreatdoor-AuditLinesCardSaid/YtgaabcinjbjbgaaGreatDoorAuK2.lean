/- 'known' of layer 41 returns true: its branches, part 2. -/
import Derived.Test.YtgaabcinjbjbgaaGreatDoorAuK1
namespace Go.RX.Au
open Go.Proofs
set_option maxRecDepth 100000
theorem k_ff : runChk cx 21 Tryz.f21 [false, false] = true := by kernel_rfl
theorem k_ft : runChk cx 21 Tryz.f21 [false, true] = true := by kernel_rfl
theorem k_tfff : runChk cx 21 Tryz.f21 [true, false, false, false] = true := by kernel_rfl
theorem k_tfft : runChk cx 21 Tryz.f21 [true, false, false, true] = true := by kernel_rfl
theorem k_tftff : runChk cx 21 Tryz.f21 [true, false, true, false, false] = true := by kernel_rfl
theorem k_tftft : runChk cx 21 Tryz.f21 [true, false, true, false, true] = true := by kernel_rfl
theorem k_tfttf : runChk cx 21 Tryz.f21 [true, false, true, true, false] = true := by kernel_rfl
theorem k_tfttt : runChk cx 21 Tryz.f21 [true, false, true, true, true] = true := by kernel_rfl
end Go.RX.Au
