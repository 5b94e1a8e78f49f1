/- 'known' of layer 41 returns true: its branches, part 5. -/
import Derived.Test.YtgaabcinjbjbgaaGreatDoorAuK1
namespace Go.RX.Au
open Go.Proofs
set_option maxRecDepth 100000
theorem k_tttt : runChk cx 21 Tryz.f21 [true, true, true, true] = true := by kernel_rfl
end Go.RX.Au
