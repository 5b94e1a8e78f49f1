/- 'known' of layer 41 returns true. -/
import Derived.Test.YtgaabcinjbjbgaaGreatDoorAuK2
import Derived.Test.YtgaabcinjbjbgaaGreatDoorAuK3
import Derived.Test.YtgaabcinjbjbgaaGreatDoorAuK4
import Derived.Test.YtgaabcinjbjbgaaGreatDoorAuK5
namespace Go.RX.Au
open Go.Proofs
theorem known_meets : Meets Tryz.prog 21 [] [] (fun v hs => v = .bool true ∧ hs = []) :=
  law1 (C := cx) okT okFT okM Tryz.func21 (runChk_split (p := []) (runChk_split (p := [false]) k_ff k_ft) (runChk_split (p := [true]) (runChk_split (p := [true, false]) (runChk_split (p := [true, false, false]) k_tfff k_tfft) (runChk_split (p := [true, false, true]) (runChk_split (p := [true, false, true, false]) k_tftff k_tftft) (runChk_split (p := [true, false, true, true]) k_tfttf k_tfttt))) (runChk_split (p := [true, true]) (runChk_split (p := [true, true, false]) (runChk_split (p := [true, true, false, false]) k_ttfff k_ttfft) (runChk_split (p := [true, true, false, true]) (runChk_split (p := [true, true, false, true, false]) k_ttftff k_ttftft) (runChk_split (p := [true, true, false, true, true]) k_ttfttf k_ttfttt))) (runChk_split (p := [true, true, true]) (runChk_split (p := [true, true, true, false]) (runChk_split (p := [true, true, true, false, false]) k_tttfff k_tttfft) (runChk_split (p := [true, true, true, false, true]) (runChk_split (p := [true, true, true, false, true, false]) k_tttftff k_tttftft) (runChk_split (p := [true, true, true, false, true, true]) k_tttfttf k_tttfttt))) k_tttt)))) pureOk1
end Go.RX.Au
