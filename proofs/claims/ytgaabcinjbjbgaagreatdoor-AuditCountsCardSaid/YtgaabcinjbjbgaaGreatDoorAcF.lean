/- AuditCounts: what it leaves to be shown; printed by a program of ours (wip/tools). -/
import Derived.Test.YtgaabcinjbjbgaaGreatDoorAuK
import Derived.Test.YtgaabcinjbjbgaaGreatDoorAcAnn
namespace Go.RX.Ac
open Go.RX Go.Proofs
noncomputable def cx : Ctx := { T := TT, FT := FT, loops := loops, pure := pure }
set_option maxRecDepth 100000
noncomputable def fm_counts : F := runF cx 6 ([Go.RX.SV.vv 0]) ([Go.RX.Ck.sli false 0 59 20 (Go.RX.E.var 0) [{ ck := Go.RX.CK.int (Go.IntKind.u8), w := 1, a := Go.RX.E.avar 0 }, { ck := Go.RX.CK.int (Go.IntKind.i64), w := 1, a := Go.RX.E.avar 1 }, { ck := Go.RX.CK.int (Go.IntKind.u8), w := 1, a := Go.RX.E.avar 2 }, { ck := Go.RX.CK.int (Go.IntKind.u8), w := 1, a := Go.RX.E.avar 3 }, { ck := Go.RX.CK.int (Go.IntKind.u8), w := 16, a := Go.RX.E.avar 4 }]]) ({ b := 0, v := 1, i := 1, a := 5, bo := 0, p := 0, r := 0 }) Tryz.f6
def st_counts (_ : Program) (Post : Value → List HP → Prop) (x0 : Int) (A0 : Nat → Int) (A1 : Nat → Int) (A2 : Nat → Int) (A3 : Nat → Int) (A4 : Nat → Int) (v0 : V1) : Prop :=
 Need (0 ≤ x0) (
 Fork (300 < x0) (
  Post (.bool true) [sliHP false 59 20 v0.v (Int.toNat x0) (tabL (Int.toNat x0) [colI .u8 1 A0, colI .i64 1 A1, colI .u8 1 A2, colI .u8 1 A3, colI .u8 16 A4])]) (
  ∀ b0 : Nat, ∃ (I0x2 : Ext → Prop) (m0x2 : Ext → Nat), (∃ x1 : Int, ∃ A5 : (Nat → Int), x1 = 0 ∧ (∀ j, j < 8 → A5 j = (fun _ => 0) j) ∧ I0x2 ⟨[], [], [x1], [A5], [], [], []⟩) ∧
  ∀ x1 : Int, ∀ A5 : (Nat → Int), I0x2 ⟨[], [], [x1], [A5], [], [], []⟩ →
    Fork (x1 < x0) (
      Need (0 ≤ x1) (
      ∀ _ : Nat, Fork ((A0 (Int.toNat x1)) < 8) (
        Need (0 ≤ (A0 (Int.toNat x1))) (
        Need ((-9223372036854775808) ≤ ((A5 (Int.toNat (A0 (Int.toNat x1)))) + 1)) (
        Need (((A5 (Int.toNat (A0 (Int.toNat x1)))) + 1) ≤ 9223372036854775807) (
        Need ((-9223372036854775808) ≤ (x1 + 1)) (
        Need ((x1 + 1) ≤ 9223372036854775807) (
        ∃ x1' : Int, ∃ A5' : (Nat → Int), x1' = (x1 + 1) ∧ (∀ j, j < 8 → A5' j = (updF A5 (Int.toNat (A0 (Int.toNat x1))) ((A5 (Int.toNat (A0 (Int.toNat x1)))) + 1)) j) ∧ I0x2 ⟨[], [], [x1'], [A5'], [], [], []⟩ ∧ m0x2 ⟨[], [], [x1'], [A5'], [], [], []⟩ < m0x2 ⟨[], [], [x1], [A5], [], [], []⟩)))))) (
        Need ((-9223372036854775808) ≤ ((A5 0) + 1)) (
        Need (((A5 0) + 1) ≤ 9223372036854775807) (
        Need ((-9223372036854775808) ≤ (x1 + 1)) (
        Need ((x1 + 1) ≤ 9223372036854775807) (
        ∃ x1' : Int, ∃ A5' : (Nat → Int), x1' = (x1 + 1) ∧ (∀ j, j < 8 → A5' j = (splF (updF (fun _ => 0) 0 ((A5 0) + 1)) 1 7 (shiftF A5 1)) j) ∧ I0x2 ⟨[], [], [x1'], [A5'], [], [], []⟩ ∧ m0x2 ⟨[], [], [x1'], [A5'], [], [], []⟩ < m0x2 ⟨[], [], [x1], [A5], [], [], []⟩))))))) (
      ∀ b1 : Nat, ∀ b2 : Nat, ∀ b3 : Nat, ∀ (_ l5 : Nat) (r4 : Loop), Need (0 ≤ x0) (
      ∃ (I0x6 : Ext → Prop) (m0x6 : Ext → Nat), (∃ x2 : Int, ∃ A6 : (Nat → Int), x2 = 0 ∧ (∀ j, j < 8 → A6 j = (fun _ => 0) j) ∧ I0x6 ⟨[], [], [x2], [A6], [], [], []⟩) ∧
      ∀ x2 : Int, ∀ A6 : (Nat → Int), I0x6 ⟨[], [], [x2], [A6], [], [], []⟩ →
        Fork (x2 < x0) (
          Need (0 ≤ x2) (
          ∀ _ : Nat, ∀ _ : Nat, Need ((-9223372036854775808) ≤ (A0 (Int.toNat x2))) (
          Need ((A0 (Int.toNat x2)) ≤ 9223372036854775807) (
          Fork (8 ≤ (A0 (Int.toNat x2))) (
            Need ((-9223372036854775808) ≤ ((A6 0) + 1)) (
            Need (((A6 0) + 1) ≤ 9223372036854775807) (
            Need ((-9223372036854775808) ≤ (x2 + 1)) (
            Need ((x2 + 1) ≤ 9223372036854775807) (
            ∃ x2' : Int, ∃ A6' : (Nat → Int), x2' = (x2 + 1) ∧ (∀ j, j < 8 → A6' j = (splF (updF (fun _ => 0) 0 ((A6 0) + 1)) 1 7 (shiftF A6 1)) j) ∧ I0x6 ⟨[], [], [x2'], [A6'], [], [], []⟩ ∧ m0x6 ⟨[], [], [x2'], [A6'], [], [], []⟩ < m0x6 ⟨[], [], [x2], [A6], [], [], []⟩))))) (
            Need (0 ≤ (A0 (Int.toNat x2))) (
            Need ((A0 (Int.toNat x2)) < 8) (
            Need ((-9223372036854775808) ≤ ((A6 (Int.toNat (A0 (Int.toNat x2)))) + 1)) (
            Need (((A6 (Int.toNat (A0 (Int.toNat x2)))) + 1) ≤ 9223372036854775807) (
            Need ((-9223372036854775808) ≤ (x2 + 1)) (
            Need ((x2 + 1) ≤ 9223372036854775807) (
            ∃ x2' : Int, ∃ A6' : (Nat → Int), x2' = (x2 + 1) ∧ (∀ j, j < 8 → A6' j = (updF A6 (Int.toNat (A0 (Int.toNat x2))) ((A6 (Int.toNat (A0 (Int.toNat x2)))) + 1)) j) ∧ I0x6 ⟨[], [], [x2'], [A6'], [], [], []⟩ ∧ m0x6 ⟨[], [], [x2'], [A6'], [], [], []⟩ < m0x6 ⟨[], [], [x2], [A6], [], [], []⟩))))))))))) (
          Post (.bool ((List.range 8).all fun j => A6 j == A5 j)) [sliHP false 59 20 v0.v (Int.toNat x0) (tabL (Int.toNat x0) [colI .u8 1 A0, colI .i64 1 A1, colI .u8 1 A2, colI .u8 1 A3, colI .u8 16 A4]), rowHP b0 true (List.append (segCells .i64 8 A5) ([])), rowHP b1 true ([v0.v]), rowHP b2 true (List.append (segCells .i64 8 A6) ([])), rowHP b3 true (List.append (segCells .i64 8 A6) ([])), HP.emp, recHP l5 { r4 with state := LoopState.exhausted, pending := none }])))))
theorem vc_counts (P : Program) (Post : Value → List HP → Prop) (x0 : Int) (A0 : Nat → Int) (A1 : Nat → Int) (A2 : Nat → Int) (A3 : Nat → Int) (A4 : Nat → Int) (v0 : V1) (L : Nat → LC) : VC P Post fm_counts { iv := [x0], av := [A0, A1, A2, A3, A4], bo := [], bv := [], vv := [v0] } L = st_counts P Post x0 A0 A1 A2 A3 A4 v0 := by kernel_rfl
theorem run_counts : runF cx 6 ([Go.RX.SV.vv 0]) ([Go.RX.Ck.sli false 0 59 20 (Go.RX.E.var 0) [{ ck := Go.RX.CK.int (Go.IntKind.u8), w := 1, a := Go.RX.E.avar 0 }, { ck := Go.RX.CK.int (Go.IntKind.i64), w := 1, a := Go.RX.E.avar 1 }, { ck := Go.RX.CK.int (Go.IntKind.u8), w := 1, a := Go.RX.E.avar 2 }, { ck := Go.RX.CK.int (Go.IntKind.u8), w := 1, a := Go.RX.E.avar 3 }, { ck := Go.RX.CK.int (Go.IntKind.u8), w := 16, a := Go.RX.E.avar 4 }]]) ({ b := 0, v := 1, i := 1, a := 5, bo := 0, p := 0, r := 0 }) Tryz.f6 = fm_counts := rfl
end Go.RX.Ac
