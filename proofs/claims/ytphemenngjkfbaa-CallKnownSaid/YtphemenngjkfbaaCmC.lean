/- SHA-256: the document's sum of two blocks; printed by a program of ours (wip/tools). -/
import Derived.Test.YtphemenngjkfbaaCmA
import Derived.Test.YtphemenngjkfbaaCmB

namespace Go.RX.Sh
open Go.RX Go.Proofs
set_option maxRecDepth 100000
noncomputable def fm_padded : F := runF cx 131 ([Go.RX.SV.vv 0, Go.RX.SV.int (Go.IntKind.i64) (Go.RX.E.lit 32)]) ([Go.RX.Ck.sli true 0 5 1 (Go.RX.E.lit 96) [{ ck := Go.RX.CK.int (Go.IntKind.u8), w := 1, a := Go.RX.E.avar 0 }]]) ({ b := 0, v := 1, i := 0, a := 1, bo := 0, p := 0, r := 0 }) Try.f131
def st_padded (P : Program) (Post : Value → List HP → Prop) (A0 : Nat → Int) (v0 : V1) : Prop :=
∀ _ : V1, ∀ _ : V1, ∀ b0 : Nat, ∀ _ : V1, ∀ b1 : Nat, ∀ _ : V1, ∀ b2 : Nat, ∀ _ : V1, ∀ b3 : Nat, ∀ _ : V1, ∀ b4 : Nat, ∀ _ : V1, ∀ b5 : Nat, ∀ _ : V1, ∀ b6 : Nat, ∀ _ : V1, ∀ b7 : Nat, ∀ _ : V1, ∀ b8 : Nat, ∀ _ : V1, ∀ b9 : Nat, ∀ _ : V1, ∀ b10 : Nat, ∀ _ : V1, ∀ b11 : Nat, ∀ _ : V1, ∀ b12 : Nat, ∀ _ : V1, ∀ b13 : Nat, ∀ _ : V1, ∀ b14 : Nat, ∀ _ : V1, ∀ b15 : Nat, ∀ _ : V1, ∀ b16 : Nat, ∀ _ : V1, ∀ b17 : Nat, ∀ _ : V1, ∀ b18 : Nat, ∀ _ : V1, ∀ b19 : Nat, ∀ _ : V1, ∀ b20 : Nat, ∀ _ : V1, ∀ b21 : Nat, ∀ _ : V1, ∀ b22 : Nat, ∀ _ : V1, ∀ b23 : Nat, ∀ _ : V1, ∀ v27 : V1, ∀ v28 : V1, Post (v28.v) [sliHP true 5 1 v0.v 96 (tabL 96 [colI .u8 1 A0]), sliHP true 5 1 v28.v 128 (tabL 128 [colI .u8 1 (splF (updF (updF (updF (updF (updF (updF (updF (updF (updF (updF (updF (updF (updF (updF (updF (updF (updF (updF (updF (updF (updF (updF (updF (updF A0 96 128) 97 0) 98 0) 99 0) 100 0) 101 0) 102 0) 103 0) 104 0) 105 0) 106 0) 107 0) 108 0) 109 0) 110 0) 111 0) 112 0) 113 0) 114 0) 115 0) 116 0) 117 0) 118 0) 119 0) 120 8 (updF (updF (updF (updF (updF (updF (updF (updF (fun _ => 0) 7 0) 6 3) 5 0) 4 0) 3 0) 2 0) 1 0) 0 0))]), rowHP b0 true ([.int .u8 128]), rowHP b1 true ([.int .u8 0]), rowHP b2 true ([.int .u8 0]), rowHP b3 true ([.int .u8 0]), rowHP b4 true ([.int .u8 0]), rowHP b5 true ([.int .u8 0]), rowHP b6 true ([.int .u8 0]), rowHP b7 true ([.int .u8 0]), rowHP b8 true ([.int .u8 0]), rowHP b9 true ([.int .u8 0]), rowHP b10 true ([.int .u8 0]), rowHP b11 true ([.int .u8 0]), rowHP b12 true ([.int .u8 0]), rowHP b13 true ([.int .u8 0]), rowHP b14 true ([.int .u8 0]), rowHP b15 true ([.int .u8 0]), rowHP b16 true ([.int .u8 0]), rowHP b17 true ([.int .u8 0]), rowHP b18 true ([.int .u8 0]), rowHP b19 true ([.int .u8 0]), rowHP b20 true ([.int .u8 0]), rowHP b21 true ([.int .u8 0]), rowHP b22 true ([.int .u8 0]), rowHP b23 true ([.int .u8 0]), sliHP true 5 1 v27.v 8 (tabL 8 [colI .u8 1 (updF (updF (updF (updF (updF (updF (updF (updF (fun _ => 0) 7 0) 6 3) 5 0) 4 0) 3 0) 2 0) 1 0) 0 0)])]
theorem vc_padded (P : Program) (Post : Value → List HP → Prop) (A0 : Nat → Int) (v0 : V1) (L : Nat → LC) : VC P Post fm_padded { iv := [], av := [A0], bo := [], bv := [], vv := [v0] } L = st_padded P Post A0 v0 := by kernel_rfl
theorem run_padded : runF cx 131 ([Go.RX.SV.vv 0, Go.RX.SV.int (Go.IntKind.i64) (Go.RX.E.lit 32)]) ([Go.RX.Ck.sli true 0 5 1 (Go.RX.E.lit 96) [{ ck := Go.RX.CK.int (Go.IntKind.u8), w := 1, a := Go.RX.E.avar 0 }]]) ({ b := 0, v := 1, i := 0, a := 1, bo := 0, p := 0, r := 0 }) Try.f131 = fm_padded := rfl
noncomputable def fm_rsum : F := runF cx 113 ([Go.RX.SV.vv 0, Go.RX.SV.int (Go.IntKind.i64) (Go.RX.E.lit 32)]) ([Go.RX.Ck.sli true 0 5 1 (Go.RX.E.lit 96) [{ ck := Go.RX.CK.int (Go.IntKind.u8), w := 1, a := Go.RX.E.avar 0 }]]) ({ b := 0, v := 1, i := 0, a := 1, bo := 0, p := 0, r := 0 }) Try.f113
def st_rsum (P : Program) (Post : Value → List HP → Prop) (A0 : Nat → Int) (v0 : V1) : Prop :=
∀ b0 : Nat, ∃ post, Meets P 129 [] [] post ∧
∀ x hs, post x hs → ∃ v1 : V1, ∃ A1 : (Nat → Int), x = v1.v ∧ hs = [sliHP true 70 1 v1.v 80 (tabL 80 [colI .u64 1 A1])] ∧
∃ post, Meets P 130 [.int .i64 32] [] post ∧
∀ x hs, post x hs → x = .int .u64 4294967296 ∧ hs = [] ∧
∃ post, Meets P 131 [v0.v, .int .i64 32] [sliHP true 5 1 v0.v 96 (tabL 96 [colI .u8 1 A0])] post ∧
∀ x hs, post x hs → ∃ v2 : V1, ∃ A2 : (Nat → Int), x = v2.v ∧ hs = [sliHP true 5 1 v0.v 96 (tabL 96 [colI .u8 1 A0]), sliHP true 5 1 v2.v 128 (tabL 128 [colI .u8 1 A2])] ∧
∃ (I0x0 : Ext → Prop) (m0x0 : Ext → Nat), (∃ x0 : Int, ∃ x1 : Int, ∃ x2 : Int, ∃ x3 : Int, ∃ x4 : Int, ∃ x5 : Int, ∃ x6 : Int, ∃ x7 : Int, ∃ x8 : Int, x8 = 0 ∧ x0 = 1779033703 ∧ x1 = 3144134277 ∧ x2 = 1013904242 ∧ x3 = 2773480762 ∧ x4 = 1359893119 ∧ x5 = 2600822924 ∧ x6 = 528734635 ∧ x7 = 1541459225 ∧ I0x0 ⟨[], [], [x0, x1, x2, x3, x4, x5, x6, x7, x8], [], [], [], []⟩) ∧
∀ x0 : Int, ∀ x1 : Int, ∀ x2 : Int, ∀ x3 : Int, ∀ x4 : Int, ∀ x5 : Int, ∀ x6 : Int, ∀ x7 : Int, ∀ x8 : Int, I0x0 ⟨[], [], [x0, x1, x2, x3, x4, x5, x6, x7, x8], [], [], [], []⟩ →
  Fork (x8 < 128) (
    ∃ (I1x4 : Ext → Prop) (m1x4 : Ext → Nat), (∃ v4 : V1, ∃ x9 : Int, ∃ A3 : (Nat → Int), x9 = 0 ∧ v4 = (⟨.slice none 0 0, rfl⟩ : V1) ∧ v4 = (⟨.slice none 0 0, rfl⟩ : V1) ∧ x9 = 0 ∧ (∀ j, j < (Int.toNat x9) → A3 j = (fun _ => 0) j) ∧ I1x4 ⟨[], [v4], [x9], [A3], [], [], []⟩) ∧
    ∀ v4 : V1, ∀ x9 : Int, ∀ A3 : (Nat → Int), I1x4 ⟨[], [v4], [x9], [A3], [], [], []⟩ →
      Fork (x9 < 16) (
        Need ((-9223372036854775808) ≤ (x9 * 32)) (
        Need ((x9 * 32) ≤ 9223372036854775807) (
        Need ((-9223372036854775808) ≤ (x8 + (IntKind.wrap .i64 (iop .quo .i64 (x9 * 32) 8)))) (
        Need ((x8 + (IntKind.wrap .i64 (iop .quo .i64 (x9 * 32) 8))) ≤ 9223372036854775807) (
        Need (0 ≤ (x8 + (IntKind.wrap .i64 (iop .quo .i64 (x9 * 32) 8)))) (
        Need ((x8 + (IntKind.wrap .i64 (iop .quo .i64 (x9 * 32) 8))) < 128) (
        Need ((-9223372036854775808) ≤ ((x8 + (IntKind.wrap .i64 (iop .quo .i64 (x9 * 32) 8))) + 1)) (
        Need (((x8 + (IntKind.wrap .i64 (iop .quo .i64 (x9 * 32) 8))) + 1) ≤ 9223372036854775807) (
        Need (0 ≤ ((x8 + (IntKind.wrap .i64 (iop .quo .i64 (x9 * 32) 8))) + 1)) (
        Need (((x8 + (IntKind.wrap .i64 (iop .quo .i64 (x9 * 32) 8))) + 1) < 128) (
        Need ((-9223372036854775808) ≤ ((x8 + (IntKind.wrap .i64 (iop .quo .i64 (x9 * 32) 8))) + 2)) (
        Need (((x8 + (IntKind.wrap .i64 (iop .quo .i64 (x9 * 32) 8))) + 2) ≤ 9223372036854775807) (
        Need (0 ≤ ((x8 + (IntKind.wrap .i64 (iop .quo .i64 (x9 * 32) 8))) + 2)) (
        Need (((x8 + (IntKind.wrap .i64 (iop .quo .i64 (x9 * 32) 8))) + 2) < 128) (
        Need ((-9223372036854775808) ≤ ((x8 + (IntKind.wrap .i64 (iop .quo .i64 (x9 * 32) 8))) + 3)) (
        Need (((x8 + (IntKind.wrap .i64 (iop .quo .i64 (x9 * 32) 8))) + 3) ≤ 9223372036854775807) (
        Need (0 ≤ ((x8 + (IntKind.wrap .i64 (iop .quo .i64 (x9 * 32) 8))) + 3)) (
        Need (((x8 + (IntKind.wrap .i64 (iop .quo .i64 (x9 * 32) 8))) + 3) < 128) (
        ∀ _ : Nat, Need (0 ≤ x9) (
        Need (((x9 + 1) * 8) ≤ 140737488355328) (
        ∀ v5 : V1, Need ((-9223372036854775808) ≤ (x9 + 1)) (
        Need ((x9 + 1) ≤ 9223372036854775807) (
        ∃ v4' : V1, ∃ x9' : Int, ∃ A3' : (Nat → Int), x9' = (x9 + 1) ∧ v4' = v5 ∧ v4' = v5 ∧ x9' = (x9 + 1) ∧ (∀ j, j < (Int.toNat x9') → A3' j = (updF A3 (Int.toNat x9) (IntKind.wrap .u64 ((IntKind.wrap .u64 (256 * (IntKind.wrap .u64 ((IntKind.wrap .u64 (256 * (IntKind.wrap .u64 ((IntKind.wrap .u64 (256 * (IntKind.wrap .u64 (IntKind.wrap .u64 (A2 (Int.toNat (x8 + (IntKind.wrap .i64 (iop .quo .i64 (x9 * 32) 8))))))))) + (IntKind.wrap .u64 (A2 (Int.toNat ((x8 + (IntKind.wrap .i64 (iop .quo .i64 (x9 * 32) 8))) + 1)))))))) + (IntKind.wrap .u64 (A2 (Int.toNat ((x8 + (IntKind.wrap .i64 (iop .quo .i64 (x9 * 32) 8))) + 2)))))))) + (IntKind.wrap .u64 (A2 (Int.toNat ((x8 + (IntKind.wrap .i64 (iop .quo .i64 (x9 * 32) 8))) + 3))))))) j) ∧ I1x4 ⟨[], [v4'], [x9'], [A3'], [], [], []⟩ ∧ m1x4 ⟨[], [v4'], [x9'], [A3'], [], [], []⟩ < m1x4 ⟨[], [v4], [x9], [A3], [], [], []⟩))))))))))))))))))))))) (
        ∃ (I1x8 : Ext → Prop) (m1x8 : Ext → Nat), (∃ v5 : V1, ∃ x10 : Int, ∃ A4 : (Nat → Int), x10 = 16 ∧ v5 = v4 ∧ v5 = v4 ∧ x10 = x9 ∧ (∀ j, j < (Int.toNat x10) → A4 j = A3 j) ∧ I1x8 ⟨[], [v5], [x10], [A4], [], [], []⟩) ∧
        ∀ v5 : V1, ∀ x10 : Int, ∀ A4 : (Nat → Int), I1x8 ⟨[], [v5], [x10], [A4], [], [], []⟩ →
          Fork (x10 < 64) (
            Need ((-9223372036854775808) ≤ (x10 - 2)) (
            Need ((x10 - 2) ≤ 9223372036854775807) (
            Need (0 ≤ (x10 - 2)) (
            Need ((x10 - 2) < x10) (
            Need ((-9223372036854775808) ≤ (x10 - 7)) (
            Need ((x10 - 7) ≤ 9223372036854775807) (
            Need (0 ≤ (x10 - 7)) (
            Need ((x10 - 7) < x10) (
            Need ((-9223372036854775808) ≤ (x10 - 15)) (
            Need ((x10 - 15) ≤ 9223372036854775807) (
            Need (0 ≤ (x10 - 15)) (
            Need ((x10 - 15) < x10) (
            Need ((-9223372036854775808) ≤ (x10 - 16)) (
            Need ((x10 - 16) ≤ 9223372036854775807) (
            Need (0 ≤ (x10 - 16)) (
            Need ((x10 - 16) < x10) (
            ∃ post, Meets P 133 [.int .i64 3, .int .u64 (A4 (Int.toNat (x10 - 2))), .int .i64 32] [] post ∧
            ∀ x hs, post x hs → ∃ x11 : Int, x = .int .u64 x11 ∧ hs = [] ∧
            ∃ post, Meets P 133 [.int .i64 2, .int .u64 (A4 (Int.toNat (x10 - 15))), .int .i64 32] [] post ∧
            ∀ x hs, post x hs → ∃ x12 : Int, x = .int .u64 x12 ∧ hs = [] ∧
            ∃ post, Meets P 130 [.int .i64 32] [] post ∧
            ∀ x hs, post x hs → x = .int .u64 4294967296 ∧ hs = [] ∧
            ∀ _ : Nat, Need (0 ≤ x10) (
            Need (((x10 + 1) * 8) ≤ 140737488355328) (
            ∀ v6 : V1, Need ((-9223372036854775808) ≤ (x10 + 1)) (
            Need ((x10 + 1) ≤ 9223372036854775807) (
            ∃ v5' : V1, ∃ x10' : Int, ∃ A4' : (Nat → Int), x10' = (x10 + 1) ∧ v5' = v6 ∧ v5' = v6 ∧ x10' = (x10 + 1) ∧ (∀ j, j < (Int.toNat x10') → A4' j = (updF A4 (Int.toNat x10) (iop .rem .u64 (IntKind.wrap .u64 ((IntKind.wrap .u64 ((IntKind.wrap .u64 (x11 + (A4 (Int.toNat (x10 - 7))))) + x12)) + (A4 (Int.toNat (x10 - 16))))) 4294967296)) j) ∧ I1x8 ⟨[], [v5'], [x10'], [A4'], [], [], []⟩ ∧ m1x8 ⟨[], [v5'], [x10'], [A4'], [], [], []⟩ < m1x8 ⟨[], [v5], [x10], [A4], [], [], []⟩))))))))))))))))))))) (
            ∀ v6 : V1, ∀ v7 : V1, ∃ (I1x12 : Ext → Prop) (m1x12 : Ext → Nat), (∃ v8 : V1, ∃ x11 : Int, ∃ A5 : (Nat → Int), x11 = 0 ∧ v8 = v7 ∧ v8 = v7 ∧ (∀ j, j < 8 → A5 j = (updF (updF (updF (updF (updF (updF (updF (updF (fun _ => 0) 0 x0) 1 x1) 2 x2) 3 x3) 4 x4) 5 x5) 6 x6) 7 x7) j) ∧ I1x12 ⟨[], [v8], [x11], [A5], [], [], []⟩) ∧
            ∀ v8 : V1, ∀ x11 : Int, ∀ A5 : (Nat → Int), I1x12 ⟨[], [v8], [x11], [A5], [], [], []⟩ →
              Fork (x11 < 64) (
                Need (0 ≤ x11) (
                Need (x11 < 80) (
                Need (x11 < x10) (
                ∃ post, Meets P 134 [v8.v, .int .u64 (IntKind.wrap .u64 (iop .quo .u64 (A1 (Int.toNat x11)) 4294967296)), .int .u64 (A4 (Int.toNat x11)), .int .i64 32] [sliHP true 70 1 v8.v 8 (tabL 8 [colI .u64 1 A5])] post ∧
                ∀ x hs, post x hs → ∃ v9 : V1, ∃ A6 : (Nat → Int), x = v9.v ∧ hs = [sliHP true 70 1 v9.v 8 (tabL 8 [colI .u64 1 A6])] ∧
                Need ((-9223372036854775808) ≤ (x11 + 1)) (
                Need ((x11 + 1) ≤ 9223372036854775807) (
                ∃ v8' : V1, ∃ x11' : Int, ∃ A5' : (Nat → Int), x11' = (x11 + 1) ∧ v8' = v9 ∧ v8' = v9 ∧ (∀ j, j < 8 → A5' j = A6 j) ∧ I1x12 ⟨[], [v8'], [x11'], [A5'], [], [], []⟩ ∧ m1x12 ⟨[], [v8'], [x11'], [A5'], [], [], []⟩ < m1x12 ⟨[], [v8], [x11], [A5], [], [], []⟩)))))) (
                ∃ post, Meets P 130 [.int .i64 32] [] post ∧
                ∀ x hs, post x hs → x = .int .u64 4294967296 ∧ hs = [] ∧
                ∃ post, Meets P 130 [.int .i64 32] [] post ∧
                ∀ x hs, post x hs → x = .int .u64 4294967296 ∧ hs = [] ∧
                ∃ post, Meets P 130 [.int .i64 32] [] post ∧
                ∀ x hs, post x hs → x = .int .u64 4294967296 ∧ hs = [] ∧
                ∃ post, Meets P 130 [.int .i64 32] [] post ∧
                ∀ x hs, post x hs → x = .int .u64 4294967296 ∧ hs = [] ∧
                ∃ post, Meets P 130 [.int .i64 32] [] post ∧
                ∀ x hs, post x hs → x = .int .u64 4294967296 ∧ hs = [] ∧
                ∃ post, Meets P 130 [.int .i64 32] [] post ∧
                ∀ x hs, post x hs → x = .int .u64 4294967296 ∧ hs = [] ∧
                ∃ post, Meets P 130 [.int .i64 32] [] post ∧
                ∀ x hs, post x hs → x = .int .u64 4294967296 ∧ hs = [] ∧
                ∃ post, Meets P 130 [.int .i64 32] [] post ∧
                ∀ x hs, post x hs → x = .int .u64 4294967296 ∧ hs = [] ∧
                Need ((-9223372036854775808) ≤ (x8 + 64)) (
                Need ((x8 + 64) ≤ 9223372036854775807) (
                ∃ x0' : Int, ∃ x1' : Int, ∃ x2' : Int, ∃ x3' : Int, ∃ x4' : Int, ∃ x5' : Int, ∃ x6' : Int, ∃ x7' : Int, ∃ x8' : Int, x8' = (x8 + 64) ∧ x0' = (iop .rem .u64 (IntKind.wrap .u64 (x0 + (A5 0))) 4294967296) ∧ x1' = (iop .rem .u64 (IntKind.wrap .u64 (x1 + (A5 1))) 4294967296) ∧ x2' = (iop .rem .u64 (IntKind.wrap .u64 (x2 + (A5 2))) 4294967296) ∧ x3' = (iop .rem .u64 (IntKind.wrap .u64 (x3 + (A5 3))) 4294967296) ∧ x4' = (iop .rem .u64 (IntKind.wrap .u64 (x4 + (A5 4))) 4294967296) ∧ x5' = (iop .rem .u64 (IntKind.wrap .u64 (x5 + (A5 5))) 4294967296) ∧ x6' = (iop .rem .u64 (IntKind.wrap .u64 (x6 + (A5 6))) 4294967296) ∧ x7' = (iop .rem .u64 (IntKind.wrap .u64 (x7 + (A5 7))) 4294967296) ∧ I0x0 ⟨[], [], [x0', x1', x2', x3', x4', x5', x6', x7', x8'], [], [], [], []⟩ ∧ m0x0 ⟨[], [], [x0', x1', x2', x3', x4', x5', x6', x7', x8'], [], [], [], []⟩ < m0x0 ⟨[], [], [x0, x1, x2, x3, x4, x5, x6, x7, x8], [], [], [], []⟩)))))) (
    ∃ (I0x4 : Ext → Prop) (m0x4 : Ext → Nat), (∃ v4 : V1, ∃ x9 : Int, ∃ x10 : Int, ∃ A3 : (Nat → Int), ∃ A4 : (Nat → Int), x9 = 0 ∧ v4 = (⟨.slice none 0 0, rfl⟩ : V1) ∧ (∀ j, j < 8 → A4 j = (updF (updF (updF (updF (updF (updF (updF (updF (fun _ => 0) 0 x0) 1 x1) 2 x2) 3 x3) 4 x4) 5 x5) 6 x6) 7 x7) j) ∧ v4 = (⟨.slice none 0 0, rfl⟩ : V1) ∧ x10 = 0 ∧ (∀ j, j < (Int.toNat x10) → A3 j = (fun _ => 0) j) ∧ I0x4 ⟨[], [v4], [x9, x10], [A3, A4], [], [], []⟩) ∧
    ∀ v4 : V1, ∀ x9 : Int, ∀ x10 : Int, ∀ A3 : (Nat → Int), ∀ A4 : (Nat → Int), I0x4 ⟨[], [v4], [x9, x10], [A3, A4], [], [], []⟩ →
      Fork (x9 < 8) (
        Need (0 ≤ x9) (
        ∃ post, Meets P 130 [.int .i64 24] [] post ∧
        ∀ x hs, post x hs → x = .int .u64 16777216 ∧ hs = [] ∧
        ∀ _ : Nat, Need (0 ≤ x10) (
        Need (((x10 + 1) * 1) ≤ 140737488355328) (
        ∀ v5 : V1, ∃ post, Meets P 130 [.int .i64 16] [] post ∧
        ∀ x hs, post x hs → x = .int .u64 65536 ∧ hs = [] ∧
        ∀ _ : Nat, Need (0 ≤ (x10 + 1)) (
        Need ((((x10 + 1) + 1) * 1) ≤ 140737488355328) (
        ∀ v6 : V1, ∃ post, Meets P 130 [.int .i64 8] [] post ∧
        ∀ x hs, post x hs → x = .int .u64 256 ∧ hs = [] ∧
        ∀ _ : Nat, Need (0 ≤ ((x10 + 1) + 1)) (
        Need (((((x10 + 1) + 1) + 1) * 1) ≤ 140737488355328) (
        ∀ v7 : V1, ∃ post, Meets P 130 [.int .i64 0] [] post ∧
        ∀ x hs, post x hs → x = .int .u64 1 ∧ hs = [] ∧
        ∀ _ : Nat, Need (0 ≤ (((x10 + 1) + 1) + 1)) (
        Need ((((((x10 + 1) + 1) + 1) + 1) * 1) ≤ 140737488355328) (
        ∀ v8 : V1, Need ((-9223372036854775808) ≤ (x9 + 1)) (
        Need ((x9 + 1) ≤ 9223372036854775807) (
        ∃ v4' : V1, ∃ x9' : Int, ∃ x10' : Int, ∃ A3' : (Nat → Int), ∃ A4' : (Nat → Int), x9' = (x9 + 1) ∧ v4' = v8 ∧ (∀ j, j < 8 → A4' j = A4 j) ∧ v4' = v8 ∧ x10' = ((((x10 + 1) + 1) + 1) + 1) ∧ (∀ j, j < (Int.toNat x10') → A3' j = (updF (updF (updF (updF A3 (Int.toNat x10) (IntKind.wrap .u8 (iop .rem .u64 (IntKind.wrap .u64 (iop .quo .u64 (A4 (Int.toNat x9)) 16777216)) 256))) (Int.toNat (x10 + 1)) (IntKind.wrap .u8 (iop .rem .u64 (IntKind.wrap .u64 (iop .quo .u64 (A4 (Int.toNat x9)) 65536)) 256))) (Int.toNat ((x10 + 1) + 1)) (IntKind.wrap .u8 (iop .rem .u64 (IntKind.wrap .u64 (iop .quo .u64 (A4 (Int.toNat x9)) 256)) 256))) (Int.toNat (((x10 + 1) + 1) + 1)) (IntKind.wrap .u8 (iop .rem .u64 (IntKind.wrap .u64 (iop .quo .u64 (A4 (Int.toNat x9)) 1)) 256))) j) ∧ I0x4 ⟨[], [v4'], [x9', x10'], [A3', A4'], [], [], []⟩ ∧ m0x4 ⟨[], [v4'], [x9', x10'], [A3', A4'], [], [], []⟩ < m0x4 ⟨[], [v4], [x9, x10], [A3, A4], [], [], []⟩)))))))))))) (
        Post (v4.v) [sliHP true 5 1 v0.v 96 (tabL 96 [colI .u8 1 A0]), rowHP b0 true (segCells .u64 8 A4 ++ ([])), sliHP true 70 1 v1.v 80 (tabL 80 [colI .u64 1 A1]), sliHP true 5 1 v2.v 128 (tabL 128 [colI .u8 1 A2]), sliHP true 5 1 v4.v (Int.toNat x10) (tabL (Int.toNat x10) [colI .u8 1 A3])]))
theorem vc_rsum (P : Program) (Post : Value → List HP → Prop) (A0 : Nat → Int) (v0 : V1) (L : Nat → LC) : VC P Post fm_rsum { iv := [], av := [A0], bo := [], bv := [], vv := [v0] } L = st_rsum P Post A0 v0 := by kernel_rfl
theorem run_rsum : runF cx 113 ([Go.RX.SV.vv 0, Go.RX.SV.int (Go.IntKind.i64) (Go.RX.E.lit 32)]) ([Go.RX.Ck.sli true 0 5 1 (Go.RX.E.lit 96) [{ ck := Go.RX.CK.int (Go.IntKind.u8), w := 1, a := Go.RX.E.avar 0 }]]) ({ b := 0, v := 1, i := 0, a := 1, bo := 0, p := 0, r := 0 }) Try.f113 = fm_rsum := rfl
noncomputable def fm_rmedia : F := runF cx 45 ([Go.RX.SV.agg [Go.RX.SV.seg (Go.IntKind.u8) 16 (Go.RX.E.avar 0)], Go.RX.SV.agg [Go.RX.SV.seg (Go.IntKind.u8) 32 (Go.RX.E.avar 1)], Go.RX.SV.agg [Go.RX.SV.seg (Go.IntKind.u8) 32 (Go.RX.E.avar 2)], Go.RX.SV.agg [Go.RX.SV.int (Go.IntKind.u8) (Go.RX.E.var 0), Go.RX.SV.int (Go.IntKind.u8) (Go.RX.E.var 1)], Go.RX.SV.agg [Go.RX.SV.int (Go.IntKind.u8) (Go.RX.E.var 2), Go.RX.SV.int (Go.IntKind.u8) (Go.RX.E.var 3)]]) ([]) ({ b := 0, v := 0, i := 4, a := 3, bo := 0, p := 0, r := 0 }) Try.f45
def st_rmedia (P : Program) (Post : Value → List HP → Prop) (x0 : Int) (x1 : Int) (x2 : Int) (x3 : Int) (A0 : Nat → Int) (A1 : Nat → Int) (A2 : Nat → Int) : Prop :=
∀ b0 : Nat, ∀ b1 : Nat, ∀ b2 : Nat, ∀ b3 : Nat, ∀ b4 : Nat, ∀ b5 : Nat, ∀ b6 : Nat, ∀ b7 : Nat, ∀ _ : V1, ∀ b8 : Nat, ∀ _ : V1, ∀ b9 : Nat, ∀ _ : V1, ∀ b10 : Nat, ∀ _ : V1, ∀ b11 : Nat, ∀ _ : V1, ∀ b12 : Nat, ∀ _ : V1, ∀ b13 : Nat, ∀ _ : V1, ∀ b14 : Nat, ∀ _ : V1, ∀ b15 : Nat, ∀ _ : V1, ∀ b16 : Nat, ∀ _ : V1, ∀ b17 : Nat, ∀ _ : V1, ∀ b18 : Nat, ∀ _ : V1, ∀ b19 : Nat, ∀ _ : V1, ∀ b20 : Nat, ∀ _ : V1, ∀ b21 : Nat, ∀ _ : V1, ∀ b22 : Nat, ∀ _ : V1, ∀ b23 : Nat, ∀ b24 : Nat, ∀ _ : V1, ∀ b25 : Nat, ∀ _ : V1, ∀ b26 : Nat, ∀ _ : V1, ∀ b27 : Nat, ∀ _ : V1, ∀ b28 : Nat, ∀ _ : V1, ∀ b29 : Nat, ∀ _ : V1, ∀ b30 : Nat, ∀ _ : V1, ∀ b31 : Nat, ∀ _ : V1, ∀ b32 : Nat, ∀ _ : V1, ∀ b33 : Nat, ∀ _ : V1, ∀ b34 : Nat, ∀ _ : V1, ∀ b35 : Nat, ∀ _ : V1, ∀ b36 : Nat, ∀ _ : V1, ∀ b37 : Nat, ∀ _ : V1, ∀ b38 : Nat, ∀ _ : V1, ∀ b39 : Nat, ∀ _ : V1, ∀ b40 : Nat, ∀ _ : V1, ∀ b41 : Nat, ∀ _ : V1, ∀ b42 : Nat, ∀ _ : V1, ∀ b43 : Nat, ∀ _ : V1, ∀ b44 : Nat, ∀ _ : V1, ∀ b45 : Nat, ∀ _ : V1, ∀ b46 : Nat, ∀ _ : V1, ∀ b47 : Nat, ∀ _ : V1, ∀ b48 : Nat, ∀ _ : V1, ∀ b49 : Nat, ∀ _ : V1, ∀ b50 : Nat, ∀ _ : V1, ∀ b51 : Nat, ∀ _ : V1, ∀ b52 : Nat, ∀ _ : V1, ∀ b53 : Nat, ∀ _ : V1, ∀ b54 : Nat, ∀ _ : V1, ∀ b55 : Nat, ∀ v47 : V1, ∀ _ : V1, ∀ b56 : Nat, ∀ b57 : Nat, ∀ _ : V1, ∀ b58 : Nat, ∀ _ : V1, ∀ b59 : Nat, ∀ _ : V1, ∀ b60 : Nat, ∀ _ : V1, ∀ b61 : Nat, ∀ _ : V1, ∀ b62 : Nat, ∀ _ : V1, ∀ b63 : Nat, ∀ _ : V1, ∀ b64 : Nat, ∀ _ : V1, ∀ b65 : Nat, ∀ _ : V1, ∀ b66 : Nat, ∀ _ : V1, ∀ b67 : Nat, ∀ _ : V1, ∀ b68 : Nat, ∀ _ : V1, ∀ b69 : Nat, ∀ _ : V1, ∀ b70 : Nat, ∀ _ : V1, ∀ b71 : Nat, ∀ _ : V1, ∀ b72 : Nat, ∀ _ : V1, ∀ b73 : Nat, ∀ _ : V1, ∀ b74 : Nat, ∀ _ : V1, ∀ b75 : Nat, ∀ _ : V1, ∀ b76 : Nat, ∀ _ : V1, ∀ b77 : Nat, ∀ _ : V1, ∀ b78 : Nat, ∀ _ : V1, ∀ b79 : Nat, ∀ _ : V1, ∀ b80 : Nat, ∀ _ : V1, ∀ b81 : Nat, ∀ _ : V1, ∀ b82 : Nat, ∀ _ : V1, ∀ b83 : Nat, ∀ _ : V1, ∀ b84 : Nat, ∀ _ : V1, ∀ b85 : Nat, ∀ _ : V1, ∀ b86 : Nat, ∀ _ : V1, ∀ b87 : Nat, ∀ _ : V1, ∀ b88 : Nat, ∀ v80 : V1, ∀ _ : V1, ∀ b89 : Nat, ∀ v82 : V1, ∀ b90 : Nat, ∀ b91 : Nat, ∃ post, Meets P 113 [v82.v, .int .i64 32] [sliHP true 5 1 v82.v 96 (tabL 96 [colI .u8 1 (splF (splF (splF (updF (updF (updF (updF (updF (updF (updF (updF (updF (updF (updF (updF (updF (updF (updF (splF (updF (updF (updF (updF (updF (updF (updF (updF (updF (updF (updF (updF (fun _ => 0) 0 104) 1 97) 2 105) 3 108) 4 101) 5 114) 6 32) 7 109) 8 101) 9 100) 10 105) 11 97) 12 1 (updF (fun _ => 0) 0 (A0 0))) 13 (A0 1)) 14 (A0 2)) 15 (A0 3)) 16 (A0 4)) 17 (A0 5)) 18 (A0 6)) 19 (A0 7)) 20 (A0 8)) 21 (A0 9)) 22 (A0 10)) 23 (A0 11)) 24 (A0 12)) 25 (A0 13)) 26 (A0 14)) 27 (A0 15)) 28 32 (updF (updF (updF (updF (updF (updF (updF (updF (updF (updF (updF (updF (updF (updF (updF (updF (updF (updF (updF (updF (updF (updF (updF (updF (updF (updF (updF (updF (updF (updF (updF (updF (fun _ => 0) 0 (A1 0)) 1 (A1 1)) 2 (A1 2)) 3 (A1 3)) 4 (A1 4)) 5 (A1 5)) 6 (A1 6)) 7 (A1 7)) 8 (A1 8)) 9 (A1 9)) 10 (A1 10)) 11 (A1 11)) 12 (A1 12)) 13 (A1 13)) 14 (A1 14)) 15 (A1 15)) 16 (A1 16)) 17 (A1 17)) 18 (A1 18)) 19 (A1 19)) 20 (A1 20)) 21 (A1 21)) 22 (A1 22)) 23 (A1 23)) 24 (A1 24)) 25 (A1 25)) 26 (A1 26)) 27 (A1 27)) 28 (A1 28)) 29 (A1 29)) 30 (A1 30)) 31 (A1 31))) 60 32 (updF (updF (updF (updF (updF (updF (updF (updF (updF (updF (updF (updF (updF (updF (updF (updF (updF (updF (updF (updF (updF (updF (updF (updF (updF (updF (updF (updF (updF (updF (updF (updF (fun _ => 0) 0 (A2 0)) 1 (A2 1)) 2 (A2 2)) 3 (A2 3)) 4 (A2 4)) 5 (A2 5)) 6 (A2 6)) 7 (A2 7)) 8 (A2 8)) 9 (A2 9)) 10 (A2 10)) 11 (A2 11)) 12 (A2 12)) 13 (A2 13)) 14 (A2 14)) 15 (A2 15)) 16 (A2 16)) 17 (A2 17)) 18 (A2 18)) 19 (A2 19)) 20 (A2 20)) 21 (A2 21)) 22 (A2 22)) 23 (A2 23)) 24 (A2 24)) 25 (A2 25)) 26 (A2 26)) 27 (A2 27)) 28 (A2 28)) 29 (A2 29)) 30 (A2 30)) 31 (A2 31))) 92 4 (updF (updF (updF (updF (fun _ => 0) 0 x0) 1 x1) 2 x2) 3 x3))])] post ∧
∀ x hs, post x hs → ∃ v83 : V1, ∃ A3 : (Nat → Int), x = v83.v ∧ hs = [sliHP true 5 1 v82.v 96 (tabL 96 [colI .u8 1 (splF (splF (splF (updF (updF (updF (updF (updF (updF (updF (updF (updF (updF (updF (updF (updF (updF (updF (splF (updF (updF (updF (updF (updF (updF (updF (updF (updF (updF (updF (updF (fun _ => 0) 0 104) 1 97) 2 105) 3 108) 4 101) 5 114) 6 32) 7 109) 8 101) 9 100) 10 105) 11 97) 12 1 (updF (fun _ => 0) 0 (A0 0))) 13 (A0 1)) 14 (A0 2)) 15 (A0 3)) 16 (A0 4)) 17 (A0 5)) 18 (A0 6)) 19 (A0 7)) 20 (A0 8)) 21 (A0 9)) 22 (A0 10)) 23 (A0 11)) 24 (A0 12)) 25 (A0 13)) 26 (A0 14)) 27 (A0 15)) 28 32 (updF (updF (updF (updF (updF (updF (updF (updF (updF (updF (updF (updF (updF (updF (updF (updF (updF (updF (updF (updF (updF (updF (updF (updF (updF (updF (updF (updF (updF (updF (updF (updF (fun _ => 0) 0 (A1 0)) 1 (A1 1)) 2 (A1 2)) 3 (A1 3)) 4 (A1 4)) 5 (A1 5)) 6 (A1 6)) 7 (A1 7)) 8 (A1 8)) 9 (A1 9)) 10 (A1 10)) 11 (A1 11)) 12 (A1 12)) 13 (A1 13)) 14 (A1 14)) 15 (A1 15)) 16 (A1 16)) 17 (A1 17)) 18 (A1 18)) 19 (A1 19)) 20 (A1 20)) 21 (A1 21)) 22 (A1 22)) 23 (A1 23)) 24 (A1 24)) 25 (A1 25)) 26 (A1 26)) 27 (A1 27)) 28 (A1 28)) 29 (A1 29)) 30 (A1 30)) 31 (A1 31))) 60 32 (updF (updF (updF (updF (updF (updF (updF (updF (updF (updF (updF (updF (updF (updF (updF (updF (updF (updF (updF (updF (updF (updF (updF (updF (updF (updF (updF (updF (updF (updF (updF (updF (fun _ => 0) 0 (A2 0)) 1 (A2 1)) 2 (A2 2)) 3 (A2 3)) 4 (A2 4)) 5 (A2 5)) 6 (A2 6)) 7 (A2 7)) 8 (A2 8)) 9 (A2 9)) 10 (A2 10)) 11 (A2 11)) 12 (A2 12)) 13 (A2 13)) 14 (A2 14)) 15 (A2 15)) 16 (A2 16)) 17 (A2 17)) 18 (A2 18)) 19 (A2 19)) 20 (A2 20)) 21 (A2 21)) 22 (A2 22)) 23 (A2 23)) 24 (A2 24)) 25 (A2 25)) 26 (A2 26)) 27 (A2 27)) 28 (A2 28)) 29 (A2 29)) 30 (A2 30)) 31 (A2 31))) 92 4 (updF (updF (updF (updF (fun _ => 0) 0 x0) 1 x1) 2 x2) 3 x3))]), sliHP true 5 1 v83.v 32 (tabL 32 [colI .u8 1 A3])] ∧
 Post (.agg #[.int .u8 (A3 0), .int .u8 (A3 1), .int .u8 (A3 2), .int .u8 (A3 3), .int .u8 (A3 4), .int .u8 (A3 5), .int .u8 (A3 6), .int .u8 (A3 7), .int .u8 (A3 8), .int .u8 (A3 9), .int .u8 (A3 10), .int .u8 (A3 11), .int .u8 (A3 12), .int .u8 (A3 13), .int .u8 (A3 14), .int .u8 (A3 15), .int .u8 (A3 16), .int .u8 (A3 17), .int .u8 (A3 18), .int .u8 (A3 19), .int .u8 (A3 20), .int .u8 (A3 21), .int .u8 (A3 22), .int .u8 (A3 23), .int .u8 (A3 24), .int .u8 (A3 25), .int .u8 (A3 26), .int .u8 (A3 27), .int .u8 (A3 28), .int .u8 (A3 29), .int .u8 (A3 30), .int .u8 (A3 31)]) [rowHP b0 true (segCells .u8 16 A0 ++ ([])), rowHP b1 true (segCells .u8 32 A1 ++ ([])), rowHP b2 true (segCells .u8 32 A2 ++ ([])), rowHP b3 true ([.int .u8 x0, .int .u8 x1]), rowHP b4 true ([.int .u8 x2, .int .u8 x3]), rowHP b5 true ([.int .u8 (A3 0), .int .u8 (A3 1), .int .u8 (A3 2), .int .u8 (A3 3), .int .u8 (A3 4), .int .u8 (A3 5), .int .u8 (A3 6), .int .u8 (A3 7), .int .u8 (A3 8), .int .u8 (A3 9), .int .u8 (A3 10), .int .u8 (A3 11), .int .u8 (A3 12), .int .u8 (A3 13), .int .u8 (A3 14), .int .u8 (A3 15), .int .u8 (A3 16), .int .u8 (A3 17), .int .u8 (A3 18), .int .u8 (A3 19), .int .u8 (A3 20), .int .u8 (A3 21), .int .u8 (A3 22), .int .u8 (A3 23), .int .u8 (A3 24), .int .u8 (A3 25), .int .u8 (A3 26), .int .u8 (A3 27), .int .u8 (A3 28), .int .u8 (A3 29), .int .u8 (A3 30), .int .u8 (A3 31)]), rowHP b6 false ([.int .u8 104, .int .u8 97, .int .u8 105, .int .u8 108, .int .u8 101, .int .u8 114, .int .u8 32, .int .u8 109, .int .u8 101, .int .u8 100, .int .u8 105, .int .u8 97]), rowHP b7 true ([.int .u8 (A0 0)]), sliHP true 5 1 v82.v 96 (tabL 96 [colI .u8 1 (splF (splF (splF (updF (updF (updF (updF (updF (updF (updF (updF (updF (updF (updF (updF (updF (updF (updF (splF (updF (updF (updF (updF (updF (updF (updF (updF (updF (updF (updF (updF (fun _ => 0) 0 104) 1 97) 2 105) 3 108) 4 101) 5 114) 6 32) 7 109) 8 101) 9 100) 10 105) 11 97) 12 1 (updF (fun _ => 0) 0 (A0 0))) 13 (A0 1)) 14 (A0 2)) 15 (A0 3)) 16 (A0 4)) 17 (A0 5)) 18 (A0 6)) 19 (A0 7)) 20 (A0 8)) 21 (A0 9)) 22 (A0 10)) 23 (A0 11)) 24 (A0 12)) 25 (A0 13)) 26 (A0 14)) 27 (A0 15)) 28 32 (updF (updF (updF (updF (updF (updF (updF (updF (updF (updF (updF (updF (updF (updF (updF (updF (updF (updF (updF (updF (updF (updF (updF (updF (updF (updF (updF (updF (updF (updF (updF (updF (fun _ => 0) 0 (A1 0)) 1 (A1 1)) 2 (A1 2)) 3 (A1 3)) 4 (A1 4)) 5 (A1 5)) 6 (A1 6)) 7 (A1 7)) 8 (A1 8)) 9 (A1 9)) 10 (A1 10)) 11 (A1 11)) 12 (A1 12)) 13 (A1 13)) 14 (A1 14)) 15 (A1 15)) 16 (A1 16)) 17 (A1 17)) 18 (A1 18)) 19 (A1 19)) 20 (A1 20)) 21 (A1 21)) 22 (A1 22)) 23 (A1 23)) 24 (A1 24)) 25 (A1 25)) 26 (A1 26)) 27 (A1 27)) 28 (A1 28)) 29 (A1 29)) 30 (A1 30)) 31 (A1 31))) 60 32 (updF (updF (updF (updF (updF (updF (updF (updF (updF (updF (updF (updF (updF (updF (updF (updF (updF (updF (updF (updF (updF (updF (updF (updF (updF (updF (updF (updF (updF (updF (updF (updF (fun _ => 0) 0 (A2 0)) 1 (A2 1)) 2 (A2 2)) 3 (A2 3)) 4 (A2 4)) 5 (A2 5)) 6 (A2 6)) 7 (A2 7)) 8 (A2 8)) 9 (A2 9)) 10 (A2 10)) 11 (A2 11)) 12 (A2 12)) 13 (A2 13)) 14 (A2 14)) 15 (A2 15)) 16 (A2 16)) 17 (A2 17)) 18 (A2 18)) 19 (A2 19)) 20 (A2 20)) 21 (A2 21)) 22 (A2 22)) 23 (A2 23)) 24 (A2 24)) 25 (A2 25)) 26 (A2 26)) 27 (A2 27)) 28 (A2 28)) 29 (A2 29)) 30 (A2 30)) 31 (A2 31))) 92 4 (updF (updF (updF (updF (fun _ => 0) 0 x0) 1 x1) 2 x2) 3 x3))]), rowHP b8 true ([.int .u8 (A0 1)]), rowHP b9 true ([.int .u8 (A0 2)]), rowHP b10 true ([.int .u8 (A0 3)]), rowHP b11 true ([.int .u8 (A0 4)]), rowHP b12 true ([.int .u8 (A0 5)]), rowHP b13 true ([.int .u8 (A0 6)]), rowHP b14 true ([.int .u8 (A0 7)]), rowHP b15 true ([.int .u8 (A0 8)]), rowHP b16 true ([.int .u8 (A0 9)]), rowHP b17 true ([.int .u8 (A0 10)]), rowHP b18 true ([.int .u8 (A0 11)]), rowHP b19 true ([.int .u8 (A0 12)]), rowHP b20 true ([.int .u8 (A0 13)]), rowHP b21 true ([.int .u8 (A0 14)]), rowHP b22 true ([.int .u8 (A0 15)]), rowHP b23 true (segCells .u8 32 A1 ++ ([])), rowHP b24 true ([.int .u8 (A1 0)]), sliHP true 5 1 v47.v 32 (tabL 32 [colI .u8 1 (updF (updF (updF (updF (updF (updF (updF (updF (updF (updF (updF (updF (updF (updF (updF (updF (updF (updF (updF (updF (updF (updF (updF (updF (updF (updF (updF (updF (updF (updF (updF (updF (fun _ => 0) 0 (A1 0)) 1 (A1 1)) 2 (A1 2)) 3 (A1 3)) 4 (A1 4)) 5 (A1 5)) 6 (A1 6)) 7 (A1 7)) 8 (A1 8)) 9 (A1 9)) 10 (A1 10)) 11 (A1 11)) 12 (A1 12)) 13 (A1 13)) 14 (A1 14)) 15 (A1 15)) 16 (A1 16)) 17 (A1 17)) 18 (A1 18)) 19 (A1 19)) 20 (A1 20)) 21 (A1 21)) 22 (A1 22)) 23 (A1 23)) 24 (A1 24)) 25 (A1 25)) 26 (A1 26)) 27 (A1 27)) 28 (A1 28)) 29 (A1 29)) 30 (A1 30)) 31 (A1 31))]), rowHP b25 true ([.int .u8 (A1 1)]), rowHP b26 true ([.int .u8 (A1 2)]), rowHP b27 true ([.int .u8 (A1 3)]), rowHP b28 true ([.int .u8 (A1 4)]), rowHP b29 true ([.int .u8 (A1 5)]), rowHP b30 true ([.int .u8 (A1 6)]), rowHP b31 true ([.int .u8 (A1 7)]), rowHP b32 true ([.int .u8 (A1 8)]), rowHP b33 true ([.int .u8 (A1 9)]), rowHP b34 true ([.int .u8 (A1 10)]), rowHP b35 true ([.int .u8 (A1 11)]), rowHP b36 true ([.int .u8 (A1 12)]), rowHP b37 true ([.int .u8 (A1 13)]), rowHP b38 true ([.int .u8 (A1 14)]), rowHP b39 true ([.int .u8 (A1 15)]), rowHP b40 true ([.int .u8 (A1 16)]), rowHP b41 true ([.int .u8 (A1 17)]), rowHP b42 true ([.int .u8 (A1 18)]), rowHP b43 true ([.int .u8 (A1 19)]), rowHP b44 true ([.int .u8 (A1 20)]), rowHP b45 true ([.int .u8 (A1 21)]), rowHP b46 true ([.int .u8 (A1 22)]), rowHP b47 true ([.int .u8 (A1 23)]), rowHP b48 true ([.int .u8 (A1 24)]), rowHP b49 true ([.int .u8 (A1 25)]), rowHP b50 true ([.int .u8 (A1 26)]), rowHP b51 true ([.int .u8 (A1 27)]), rowHP b52 true ([.int .u8 (A1 28)]), rowHP b53 true ([.int .u8 (A1 29)]), rowHP b54 true ([.int .u8 (A1 30)]), rowHP b55 true ([.int .u8 (A1 31)]), rowHP b56 true (segCells .u8 32 A2 ++ ([])), rowHP b57 true ([.int .u8 (A2 0)]), sliHP true 5 1 v80.v 32 (tabL 32 [colI .u8 1 (updF (updF (updF (updF (updF (updF (updF (updF (updF (updF (updF (updF (updF (updF (updF (updF (updF (updF (updF (updF (updF (updF (updF (updF (updF (updF (updF (updF (updF (updF (updF (updF (fun _ => 0) 0 (A2 0)) 1 (A2 1)) 2 (A2 2)) 3 (A2 3)) 4 (A2 4)) 5 (A2 5)) 6 (A2 6)) 7 (A2 7)) 8 (A2 8)) 9 (A2 9)) 10 (A2 10)) 11 (A2 11)) 12 (A2 12)) 13 (A2 13)) 14 (A2 14)) 15 (A2 15)) 16 (A2 16)) 17 (A2 17)) 18 (A2 18)) 19 (A2 19)) 20 (A2 20)) 21 (A2 21)) 22 (A2 22)) 23 (A2 23)) 24 (A2 24)) 25 (A2 25)) 26 (A2 26)) 27 (A2 27)) 28 (A2 28)) 29 (A2 29)) 30 (A2 30)) 31 (A2 31))]), rowHP b58 true ([.int .u8 (A2 1)]), rowHP b59 true ([.int .u8 (A2 2)]), rowHP b60 true ([.int .u8 (A2 3)]), rowHP b61 true ([.int .u8 (A2 4)]), rowHP b62 true ([.int .u8 (A2 5)]), rowHP b63 true ([.int .u8 (A2 6)]), rowHP b64 true ([.int .u8 (A2 7)]), rowHP b65 true ([.int .u8 (A2 8)]), rowHP b66 true ([.int .u8 (A2 9)]), rowHP b67 true ([.int .u8 (A2 10)]), rowHP b68 true ([.int .u8 (A2 11)]), rowHP b69 true ([.int .u8 (A2 12)]), rowHP b70 true ([.int .u8 (A2 13)]), rowHP b71 true ([.int .u8 (A2 14)]), rowHP b72 true ([.int .u8 (A2 15)]), rowHP b73 true ([.int .u8 (A2 16)]), rowHP b74 true ([.int .u8 (A2 17)]), rowHP b75 true ([.int .u8 (A2 18)]), rowHP b76 true ([.int .u8 (A2 19)]), rowHP b77 true ([.int .u8 (A2 20)]), rowHP b78 true ([.int .u8 (A2 21)]), rowHP b79 true ([.int .u8 (A2 22)]), rowHP b80 true ([.int .u8 (A2 23)]), rowHP b81 true ([.int .u8 (A2 24)]), rowHP b82 true ([.int .u8 (A2 25)]), rowHP b83 true ([.int .u8 (A2 26)]), rowHP b84 true ([.int .u8 (A2 27)]), rowHP b85 true ([.int .u8 (A2 28)]), rowHP b86 true ([.int .u8 (A2 29)]), rowHP b87 true ([.int .u8 (A2 30)]), rowHP b88 true ([.int .u8 (A2 31)]), rowHP b89 true ([.int .u8 x0, .int .u8 x1, .int .u8 x2, .int .u8 x3]), rowHP b90 true ([.int .u8 (A3 0), .int .u8 (A3 1), .int .u8 (A3 2), .int .u8 (A3 3), .int .u8 (A3 4), .int .u8 (A3 5), .int .u8 (A3 6), .int .u8 (A3 7), .int .u8 (A3 8), .int .u8 (A3 9), .int .u8 (A3 10), .int .u8 (A3 11), .int .u8 (A3 12), .int .u8 (A3 13), .int .u8 (A3 14), .int .u8 (A3 15), .int .u8 (A3 16), .int .u8 (A3 17), .int .u8 (A3 18), .int .u8 (A3 19), .int .u8 (A3 20), .int .u8 (A3 21), .int .u8 (A3 22), .int .u8 (A3 23), .int .u8 (A3 24), .int .u8 (A3 25), .int .u8 (A3 26), .int .u8 (A3 27), .int .u8 (A3 28), .int .u8 (A3 29), .int .u8 (A3 30), .int .u8 (A3 31)]), rowHP b91 true ([.int .u8 (A3 0), .int .u8 (A3 1), .int .u8 (A3 2), .int .u8 (A3 3), .int .u8 (A3 4), .int .u8 (A3 5), .int .u8 (A3 6), .int .u8 (A3 7), .int .u8 (A3 8), .int .u8 (A3 9), .int .u8 (A3 10), .int .u8 (A3 11), .int .u8 (A3 12), .int .u8 (A3 13), .int .u8 (A3 14), .int .u8 (A3 15), .int .u8 (A3 16), .int .u8 (A3 17), .int .u8 (A3 18), .int .u8 (A3 19), .int .u8 (A3 20), .int .u8 (A3 21), .int .u8 (A3 22), .int .u8 (A3 23), .int .u8 (A3 24), .int .u8 (A3 25), .int .u8 (A3 26), .int .u8 (A3 27), .int .u8 (A3 28), .int .u8 (A3 29), .int .u8 (A3 30), .int .u8 (A3 31)]), sliHP true 5 1 v83.v 32 (tabL 32 [colI .u8 1 A3])]
theorem vc_rmedia (P : Program) (Post : Value → List HP → Prop) (x0 : Int) (x1 : Int) (x2 : Int) (x3 : Int) (A0 : Nat → Int) (A1 : Nat → Int) (A2 : Nat → Int) (L : Nat → LC) : VC P Post fm_rmedia { iv := [x0, x1, x2, x3], av := [A0, A1, A2], bo := [], bv := [], vv := [] } L = st_rmedia P Post x0 x1 x2 x3 A0 A1 A2 := by kernel_rfl
theorem run_rmedia : runF cx 45 ([Go.RX.SV.agg [Go.RX.SV.seg (Go.IntKind.u8) 16 (Go.RX.E.avar 0)], Go.RX.SV.agg [Go.RX.SV.seg (Go.IntKind.u8) 32 (Go.RX.E.avar 1)], Go.RX.SV.agg [Go.RX.SV.seg (Go.IntKind.u8) 32 (Go.RX.E.avar 2)], Go.RX.SV.agg [Go.RX.SV.int (Go.IntKind.u8) (Go.RX.E.var 0), Go.RX.SV.int (Go.IntKind.u8) (Go.RX.E.var 1)], Go.RX.SV.agg [Go.RX.SV.int (Go.IntKind.u8) (Go.RX.E.var 2), Go.RX.SV.int (Go.IntKind.u8) (Go.RX.E.var 3)]]) ([]) ({ b := 0, v := 0, i := 4, a := 3, bo := 0, p := 0, r := 0 }) Try.f45 = fm_rmedia := rfl
end Go.RX.Sh

namespace Go.RX.Sh
open Go.RX Go.Proofs

theorem quo_u64 (a b : Nat) : iop .quo .u64 (a : Int) (b : Int) = ((a / b : Nat) : Int) := rfl
theorem rem_u64 (a b : Nat) : iop .rem .u64 (a : Int) (b : Int) = ((a % b : Nat) : Int) := rfl
theorem wrap64 {n : Nat} (h : n < 2 ^ 64) : IntKind.wrap .u64 (n : Int) = (n : Int) := by rw [wrap_u64, Nat.mod_eq_of_lt h]
theorem div64 {x n : Nat} (hx : x < 2 ^ 32) : IntKind.wrap .u64 (iop .quo .u64 (x : Int) ((2 ^ n : Nat) : Int)) = ((x / 2 ^ n : Nat) : Int) := by
  rw [quo_u64, wrap64 (Nat.lt_trans (rot_div hx) (by decide))]
theorem rot64 {x n : Nat} (hx : x < 2 ^ 32) (hn : n ≤ 32) :
    IntKind.wrap .u64 (IntKind.wrap .u64 (iop .quo .u64 (x : Int) ((2 ^ n : Nat) : Int)) + iop .rem .u64 (IntKind.wrap .u64 ((x : Int) * ((2 ^ (32 - n) : Nat) : Int))) ((2 ^ 32 : Nat) : Int)) = ((rotr x n : Nat) : Int) := by
  have h2 : x * 2 ^ (32 - n) < 2 ^ 64 := by
    have h3 : 2 ^ (32 - n) ≤ 2 ^ 32 := Nat.pow_le_pow_right (by decide) (by omega)
    have h4 : x * 2 ^ (32 - n) ≤ x * 2 ^ 32 := Nat.mul_le_mul_left _ h3
    omega
  have h5 := rotr_lt hx hn
  unfold rotr at h5 ⊢
  rw [div64 hx, ← Int.natCast_mul, wrap64 h2, rem_u64, ← Int.natCast_add, wrap64 (Nat.lt_trans h5 (by decide))]
theorem xorL {a b : Nat} (ha : a < 2 ^ 32) (hb : b < 2 ^ 32) : iop .bxor .u64 (a : Int) (b : Int) = ((a ^^^ b : Nat) : Int) := xor64 (Nat.lt_trans ha (by decide)) (Nat.lt_trans hb (by decide))

theorem power_meets (n : Nat) (hn : n ≤ 32) : Meets Try.prog 130 [.int .i64 (n : Int)] [] (fun r hs => r = .int .u64 ((2 ^ n : Nat) : Int) ∧ hs = []) := by
  refine Meets.of_run (C := cx) (cnt := { i := 1 }) (ρ := { iv := [(n : Int)] }) okT okFT okM Try.func130 (by constructor <;> rfl)
    (args := [.int .i64 (.var 0)]) (hp := []) ?_
  rw [show runF cx 130 [.int .i64 (.var 0)] [] { i := 1 } Try.f130 = fm_power from run_power, vc_power]
  unfold st_power
  refine ⟨fun e => ∃ a : Nat, a ≤ n ∧ e.i = [((2 ^ a : Nat) : Int), (a : Int)], fun e => ((n : Int) - e.i.getD 1 0).toNat, ⟨_, _, rfl, rfl, 0, by omega, rfl⟩, ?_⟩
  rintro x1 x2 ⟨a, ha, hx⟩
  simp only [List.cons.injEq, and_true] at hx
  obtain ⟨rfl, rfl⟩ := hx
  refine ⟨fun hlt => ⟨by omega, fun _ => ⟨by omega, fun _ => ⟨_, _, rfl, rfl, ⟨a + 1, by omega, ?_⟩, ?_⟩⟩⟩, fun hge => ⟨?_, rfl⟩⟩
  · have h1 : 2 ^ (a + 1) ≤ 2 ^ 32 := Nat.pow_le_pow_right (by decide) (by omega)
    have h2 : IntKind.wrap .u64 (2 * ((2 ^ a : Nat) : Int)) = ((2 ^ (a + 1) : Nat) : Int) := by
      rw [show (2 : Int) * ((2 ^ a : Nat) : Int) = ((2 ^ (a + 1) : Nat) : Int) by rw [Nat.pow_succ, Nat.mul_comm, Int.natCast_mul]; rfl]
      exact wrap64 (Nat.lt_of_le_of_lt h1 (by decide))
    rw [h2, Int.natCast_add]
    rfl
  · simp only [List.getD_cons_zero, List.getD_cons_succ]; omega
  · rw [show a = n by omega]
theorem power_at (n : Nat) {m p : Int} (hm : (n : Int) = m) (hp : ((2 ^ n : Nat) : Int) = p) (hn : n ≤ 32) : Meets Try.prog 130 [.int .i64 m] [] (fun r hs => r = .int .u64 p ∧ hs = []) := by
  subst hm
  subst hp
  exact power_meets n hn

theorem d_S0 {x : Nat} (hx : x < 2 ^ 32) : (iop .bxor .u64 (iop .bxor .u64 (IntKind.wrap .u64 ((IntKind.wrap .u64 (iop .quo .u64 (x : Int) 4)) + (iop .rem .u64 (IntKind.wrap .u64 ((x : Int) * 1073741824)) 4294967296))) (IntKind.wrap .u64 ((IntKind.wrap .u64 (iop .quo .u64 (x : Int) 8192)) + (iop .rem .u64 (IntKind.wrap .u64 ((x : Int) * 524288)) 4294967296)))) (IntKind.wrap .u64 ((IntKind.wrap .u64 (iop .quo .u64 (x : Int) 4194304)) + (iop .rem .u64 (IntKind.wrap .u64 ((x : Int) * 1024)) 4294967296)))) = ((S0 x : Nat) : Int) := by
  have r0 : IntKind.wrap .u64 ((IntKind.wrap .u64 (iop .quo .u64 (x : Int) 4)) + (iop .rem .u64 (IntKind.wrap .u64 ((x : Int) * 1073741824)) 4294967296)) = ((rotr x 2 : Nat) : Int) := rot64 (n := 2) hx (by decide)
  have l0 : rotr x 2 < 2 ^ 32 := rotr_lt hx (by decide)
  have r1 : IntKind.wrap .u64 ((IntKind.wrap .u64 (iop .quo .u64 (x : Int) 8192)) + (iop .rem .u64 (IntKind.wrap .u64 ((x : Int) * 524288)) 4294967296)) = ((rotr x 13 : Nat) : Int) := rot64 (n := 13) hx (by decide)
  have l1 : rotr x 13 < 2 ^ 32 := rotr_lt hx (by decide)
  have r2 : IntKind.wrap .u64 ((IntKind.wrap .u64 (iop .quo .u64 (x : Int) 4194304)) + (iop .rem .u64 (IntKind.wrap .u64 ((x : Int) * 1024)) 4294967296)) = ((rotr x 22 : Nat) : Int) := rot64 (n := 22) hx (by decide)
  have l2 : rotr x 22 < 2 ^ 32 := rotr_lt hx (by decide)
  rw [r0, r1, r2, xorL l0 l1, xorL (xor_lt l0 l1) l2]
  rfl
theorem four_meets0 (x : Nat) (hx : x < 2 ^ 32) : Meets Try.prog 133 [.int .i64 0, .int .u64 (x : Int), .int .i64 32] [] (fun r hs => r = .int .u64 ((S0 x : Nat) : Int) ∧ hs = []) := by
  refine Meets.of_run (C := cx) (cnt := { i := 1 }) (ρ := { iv := [(x : Int)] }) okT okFT okM Try.func133 (by constructor <;> rfl)
    (args := [.int .i64 (.lit 0), .int .u64 (.var 0), .int .i64 (.lit 32)]) (hp := []) ?_
  rw [show runF cx 133 [.int .i64 (.lit 0), .int .u64 (.var 0), .int .i64 (.lit 32)] [] { i := 1 } Try.f133 = fm_four0 from run_four0, vc_four0]
  unfold st_four0
  refine ⟨_, power_at 22 rfl rfl (by decide), ?_⟩
  rintro r hs ⟨rfl, rfl⟩
  refine ⟨rfl, rfl, ?_⟩
  refine ⟨_, power_at 22 rfl rfl (by decide), ?_⟩
  rintro r hs ⟨rfl, rfl⟩
  refine ⟨rfl, rfl, ?_⟩
  refine ⟨_, power_at 10 rfl rfl (by decide), ?_⟩
  rintro r hs ⟨rfl, rfl⟩
  refine ⟨rfl, rfl, ?_⟩
  refine ⟨_, power_at 32 rfl rfl (by decide), ?_⟩
  rintro r hs ⟨rfl, rfl⟩
  refine ⟨rfl, rfl, ?_⟩
  refine ⟨_, power_at 2 rfl rfl (by decide), ?_⟩
  rintro r hs ⟨rfl, rfl⟩
  refine ⟨rfl, rfl, ?_⟩
  refine ⟨_, power_at 30 rfl rfl (by decide), ?_⟩
  rintro r hs ⟨rfl, rfl⟩
  refine ⟨rfl, rfl, ?_⟩
  refine ⟨_, power_at 32 rfl rfl (by decide), ?_⟩
  rintro r hs ⟨rfl, rfl⟩
  refine ⟨rfl, rfl, ?_⟩
  refine ⟨_, power_at 13 rfl rfl (by decide), ?_⟩
  rintro r hs ⟨rfl, rfl⟩
  refine ⟨rfl, rfl, ?_⟩
  refine ⟨_, power_at 19 rfl rfl (by decide), ?_⟩
  rintro r hs ⟨rfl, rfl⟩
  refine ⟨rfl, rfl, ?_⟩
  refine ⟨_, power_at 32 rfl rfl (by decide), ?_⟩
  rintro r hs ⟨rfl, rfl⟩
  refine ⟨rfl, rfl, ?_⟩
  exact ⟨congrArg _ (d_S0 hx), rfl⟩

theorem d_S1 {x : Nat} (hx : x < 2 ^ 32) : (iop .bxor .u64 (iop .bxor .u64 (IntKind.wrap .u64 ((IntKind.wrap .u64 (iop .quo .u64 (x : Int) 64)) + (iop .rem .u64 (IntKind.wrap .u64 ((x : Int) * 67108864)) 4294967296))) (IntKind.wrap .u64 ((IntKind.wrap .u64 (iop .quo .u64 (x : Int) 2048)) + (iop .rem .u64 (IntKind.wrap .u64 ((x : Int) * 2097152)) 4294967296)))) (IntKind.wrap .u64 ((IntKind.wrap .u64 (iop .quo .u64 (x : Int) 33554432)) + (iop .rem .u64 (IntKind.wrap .u64 ((x : Int) * 128)) 4294967296)))) = ((S1 x : Nat) : Int) := by
  have r0 : IntKind.wrap .u64 ((IntKind.wrap .u64 (iop .quo .u64 (x : Int) 64)) + (iop .rem .u64 (IntKind.wrap .u64 ((x : Int) * 67108864)) 4294967296)) = ((rotr x 6 : Nat) : Int) := rot64 (n := 6) hx (by decide)
  have l0 : rotr x 6 < 2 ^ 32 := rotr_lt hx (by decide)
  have r1 : IntKind.wrap .u64 ((IntKind.wrap .u64 (iop .quo .u64 (x : Int) 2048)) + (iop .rem .u64 (IntKind.wrap .u64 ((x : Int) * 2097152)) 4294967296)) = ((rotr x 11 : Nat) : Int) := rot64 (n := 11) hx (by decide)
  have l1 : rotr x 11 < 2 ^ 32 := rotr_lt hx (by decide)
  have r2 : IntKind.wrap .u64 ((IntKind.wrap .u64 (iop .quo .u64 (x : Int) 33554432)) + (iop .rem .u64 (IntKind.wrap .u64 ((x : Int) * 128)) 4294967296)) = ((rotr x 25 : Nat) : Int) := rot64 (n := 25) hx (by decide)
  have l2 : rotr x 25 < 2 ^ 32 := rotr_lt hx (by decide)
  rw [r0, r1, r2, xorL l0 l1, xorL (xor_lt l0 l1) l2]
  rfl
theorem four_meets1 (x : Nat) (hx : x < 2 ^ 32) : Meets Try.prog 133 [.int .i64 1, .int .u64 (x : Int), .int .i64 32] [] (fun r hs => r = .int .u64 ((S1 x : Nat) : Int) ∧ hs = []) := by
  refine Meets.of_run (C := cx) (cnt := { i := 1 }) (ρ := { iv := [(x : Int)] }) okT okFT okM Try.func133 (by constructor <;> rfl)
    (args := [.int .i64 (.lit 1), .int .u64 (.var 0), .int .i64 (.lit 32)]) (hp := []) ?_
  rw [show runF cx 133 [.int .i64 (.lit 1), .int .u64 (.var 0), .int .i64 (.lit 32)] [] { i := 1 } Try.f133 = fm_four1 from run_four1, vc_four1]
  unfold st_four1
  refine ⟨_, power_at 25 rfl rfl (by decide), ?_⟩
  rintro r hs ⟨rfl, rfl⟩
  refine ⟨rfl, rfl, ?_⟩
  refine ⟨_, power_at 25 rfl rfl (by decide), ?_⟩
  rintro r hs ⟨rfl, rfl⟩
  refine ⟨rfl, rfl, ?_⟩
  refine ⟨_, power_at 7 rfl rfl (by decide), ?_⟩
  rintro r hs ⟨rfl, rfl⟩
  refine ⟨rfl, rfl, ?_⟩
  refine ⟨_, power_at 32 rfl rfl (by decide), ?_⟩
  rintro r hs ⟨rfl, rfl⟩
  refine ⟨rfl, rfl, ?_⟩
  refine ⟨_, power_at 6 rfl rfl (by decide), ?_⟩
  rintro r hs ⟨rfl, rfl⟩
  refine ⟨rfl, rfl, ?_⟩
  refine ⟨_, power_at 26 rfl rfl (by decide), ?_⟩
  rintro r hs ⟨rfl, rfl⟩
  refine ⟨rfl, rfl, ?_⟩
  refine ⟨_, power_at 32 rfl rfl (by decide), ?_⟩
  rintro r hs ⟨rfl, rfl⟩
  refine ⟨rfl, rfl, ?_⟩
  refine ⟨_, power_at 11 rfl rfl (by decide), ?_⟩
  rintro r hs ⟨rfl, rfl⟩
  refine ⟨rfl, rfl, ?_⟩
  refine ⟨_, power_at 21 rfl rfl (by decide), ?_⟩
  rintro r hs ⟨rfl, rfl⟩
  refine ⟨rfl, rfl, ?_⟩
  refine ⟨_, power_at 32 rfl rfl (by decide), ?_⟩
  rintro r hs ⟨rfl, rfl⟩
  refine ⟨rfl, rfl, ?_⟩
  exact ⟨congrArg _ (d_S1 hx), rfl⟩

theorem d_s0 {x : Nat} (hx : x < 2 ^ 32) : (iop .bxor .u64 (iop .bxor .u64 (IntKind.wrap .u64 ((IntKind.wrap .u64 (iop .quo .u64 (x : Int) 128)) + (iop .rem .u64 (IntKind.wrap .u64 ((x : Int) * 33554432)) 4294967296))) (IntKind.wrap .u64 ((IntKind.wrap .u64 (iop .quo .u64 (x : Int) 262144)) + (iop .rem .u64 (IntKind.wrap .u64 ((x : Int) * 16384)) 4294967296)))) (IntKind.wrap .u64 (iop .quo .u64 (x : Int) 8))) = ((s0 x : Nat) : Int) := by
  have r0 : IntKind.wrap .u64 ((IntKind.wrap .u64 (iop .quo .u64 (x : Int) 128)) + (iop .rem .u64 (IntKind.wrap .u64 ((x : Int) * 33554432)) 4294967296)) = ((rotr x 7 : Nat) : Int) := rot64 (n := 7) hx (by decide)
  have l0 : rotr x 7 < 2 ^ 32 := rotr_lt hx (by decide)
  have r1 : IntKind.wrap .u64 ((IntKind.wrap .u64 (iop .quo .u64 (x : Int) 262144)) + (iop .rem .u64 (IntKind.wrap .u64 ((x : Int) * 16384)) 4294967296)) = ((rotr x 18 : Nat) : Int) := rot64 (n := 18) hx (by decide)
  have l1 : rotr x 18 < 2 ^ 32 := rotr_lt hx (by decide)
  have r2 : IntKind.wrap .u64 (iop .quo .u64 (x : Int) 8) = ((x / 2 ^ 3 : Nat) : Int) := div64 (n := 3) hx
  have l2 : x / 2 ^ 3 < 2 ^ 32 := rot_div hx
  rw [r0, r1, r2, xorL l0 l1, xorL (xor_lt l0 l1) l2]
  rfl
theorem four_meets2 (x : Nat) (hx : x < 2 ^ 32) : Meets Try.prog 133 [.int .i64 2, .int .u64 (x : Int), .int .i64 32] [] (fun r hs => r = .int .u64 ((s0 x : Nat) : Int) ∧ hs = []) := by
  refine Meets.of_run (C := cx) (cnt := { i := 1 }) (ρ := { iv := [(x : Int)] }) okT okFT okM Try.func133 (by constructor <;> rfl)
    (args := [.int .i64 (.lit 2), .int .u64 (.var 0), .int .i64 (.lit 32)]) (hp := []) ?_
  rw [show runF cx 133 [.int .i64 (.lit 2), .int .u64 (.var 0), .int .i64 (.lit 32)] [] { i := 1 } Try.f133 = fm_four2 from run_four2, vc_four2]
  unfold st_four2
  refine ⟨_, power_at 3 rfl rfl (by decide), ?_⟩
  rintro r hs ⟨rfl, rfl⟩
  refine ⟨rfl, rfl, ?_⟩
  refine ⟨_, power_at 7 rfl rfl (by decide), ?_⟩
  rintro r hs ⟨rfl, rfl⟩
  refine ⟨rfl, rfl, ?_⟩
  refine ⟨_, power_at 25 rfl rfl (by decide), ?_⟩
  rintro r hs ⟨rfl, rfl⟩
  refine ⟨rfl, rfl, ?_⟩
  refine ⟨_, power_at 32 rfl rfl (by decide), ?_⟩
  rintro r hs ⟨rfl, rfl⟩
  refine ⟨rfl, rfl, ?_⟩
  refine ⟨_, power_at 18 rfl rfl (by decide), ?_⟩
  rintro r hs ⟨rfl, rfl⟩
  refine ⟨rfl, rfl, ?_⟩
  refine ⟨_, power_at 14 rfl rfl (by decide), ?_⟩
  rintro r hs ⟨rfl, rfl⟩
  refine ⟨rfl, rfl, ?_⟩
  refine ⟨_, power_at 32 rfl rfl (by decide), ?_⟩
  rintro r hs ⟨rfl, rfl⟩
  refine ⟨rfl, rfl, ?_⟩
  exact ⟨congrArg _ (d_s0 hx), rfl⟩

theorem d_s1 {x : Nat} (hx : x < 2 ^ 32) : (iop .bxor .u64 (iop .bxor .u64 (IntKind.wrap .u64 ((IntKind.wrap .u64 (iop .quo .u64 (x : Int) 131072)) + (iop .rem .u64 (IntKind.wrap .u64 ((x : Int) * 32768)) 4294967296))) (IntKind.wrap .u64 ((IntKind.wrap .u64 (iop .quo .u64 (x : Int) 524288)) + (iop .rem .u64 (IntKind.wrap .u64 ((x : Int) * 8192)) 4294967296)))) (IntKind.wrap .u64 (iop .quo .u64 (x : Int) 1024))) = ((s1 x : Nat) : Int) := by
  have r0 : IntKind.wrap .u64 ((IntKind.wrap .u64 (iop .quo .u64 (x : Int) 131072)) + (iop .rem .u64 (IntKind.wrap .u64 ((x : Int) * 32768)) 4294967296)) = ((rotr x 17 : Nat) : Int) := rot64 (n := 17) hx (by decide)
  have l0 : rotr x 17 < 2 ^ 32 := rotr_lt hx (by decide)
  have r1 : IntKind.wrap .u64 ((IntKind.wrap .u64 (iop .quo .u64 (x : Int) 524288)) + (iop .rem .u64 (IntKind.wrap .u64 ((x : Int) * 8192)) 4294967296)) = ((rotr x 19 : Nat) : Int) := rot64 (n := 19) hx (by decide)
  have l1 : rotr x 19 < 2 ^ 32 := rotr_lt hx (by decide)
  have r2 : IntKind.wrap .u64 (iop .quo .u64 (x : Int) 1024) = ((x / 2 ^ 10 : Nat) : Int) := div64 (n := 10) hx
  have l2 : x / 2 ^ 10 < 2 ^ 32 := rot_div hx
  rw [r0, r1, r2, xorL l0 l1, xorL (xor_lt l0 l1) l2]
  rfl
theorem four_meets3 (x : Nat) (hx : x < 2 ^ 32) : Meets Try.prog 133 [.int .i64 3, .int .u64 (x : Int), .int .i64 32] [] (fun r hs => r = .int .u64 ((s1 x : Nat) : Int) ∧ hs = []) := by
  refine Meets.of_run (C := cx) (cnt := { i := 1 }) (ρ := { iv := [(x : Int)] }) okT okFT okM Try.func133 (by constructor <;> rfl)
    (args := [.int .i64 (.lit 3), .int .u64 (.var 0), .int .i64 (.lit 32)]) (hp := []) ?_
  rw [show runF cx 133 [.int .i64 (.lit 3), .int .u64 (.var 0), .int .i64 (.lit 32)] [] { i := 1 } Try.f133 = fm_four3 from run_four3, vc_four3]
  unfold st_four3
  refine ⟨_, power_at 10 rfl rfl (by decide), ?_⟩
  rintro r hs ⟨rfl, rfl⟩
  refine ⟨rfl, rfl, ?_⟩
  refine ⟨_, power_at 17 rfl rfl (by decide), ?_⟩
  rintro r hs ⟨rfl, rfl⟩
  refine ⟨rfl, rfl, ?_⟩
  refine ⟨_, power_at 15 rfl rfl (by decide), ?_⟩
  rintro r hs ⟨rfl, rfl⟩
  refine ⟨rfl, rfl, ?_⟩
  refine ⟨_, power_at 32 rfl rfl (by decide), ?_⟩
  rintro r hs ⟨rfl, rfl⟩
  refine ⟨rfl, rfl, ?_⟩
  refine ⟨_, power_at 19 rfl rfl (by decide), ?_⟩
  rintro r hs ⟨rfl, rfl⟩
  refine ⟨rfl, rfl, ?_⟩
  refine ⟨_, power_at 13 rfl rfl (by decide), ?_⟩
  rintro r hs ⟨rfl, rfl⟩
  refine ⟨rfl, rfl, ?_⟩
  refine ⟨_, power_at 32 rfl rfl (by decide), ?_⟩
  rintro r hs ⟨rfl, rfl⟩
  refine ⟨rfl, rfl, ?_⟩
  exact ⟨congrArg _ (d_s1 hx), rfl⟩
end Go.RX.Sh

namespace Go.RX.Sh
open Go.RX Go.Proofs

theorem rem32 (a : Nat) : iop .rem .u64 (a : Int) 4294967296 = ((a % 2 ^ 32 : Nat) : Int) := rem_u64 a (2 ^ 32)
theorem add64 {a b : Nat} (h : a + b < 2 ^ 64) : IntKind.wrap .u64 ((a : Int) + (b : Int)) = ((a + b : Nat) : Int) := by rw [← Int.natCast_add, wrap64 h]
theorem andL {a b : Nat} (ha : a < 2 ^ 32) (hb : b < 2 ^ 32) : iop .band .u64 (a : Int) (b : Int) = ((a &&& b : Nat) : Int) := and64 (Nat.lt_trans ha (by decide)) (Nat.lt_trans hb (by decide))
theorem d_ch {x y z : Nat} (hx : x < 2 ^ 32) (hy : y < 2 ^ 32) (hz : z < 2 ^ 32) : iop .bxor .u64 (iop .band .u64 (x : Int) (y : Int)) (iop .band .u64 (IntKind.wrap .u64 (4294967295 - (x : Int))) (z : Int)) = ((ch x y z : Nat) : Int) := by
  have h1 : IntKind.wrap .u64 (4294967295 - (x : Int)) = ((2 ^ 32 - 1 - x : Nat) : Int) := by
    rw [show (4294967295 : Int) - (x : Int) = ((2 ^ 32 - 1 - x : Nat) : Int) by omega, wrap64 (by omega)]
  rw [h1, andL hx hy, andL (by omega) hz, xorL (and_lt hx) (and_lt (by omega))]
  rfl
theorem d_maj {x y z : Nat} (hx : x < 2 ^ 32) (hy : y < 2 ^ 32) (hz : z < 2 ^ 32) : iop .bxor .u64 (iop .bxor .u64 (iop .band .u64 (x : Int) (y : Int)) (iop .band .u64 (x : Int) (z : Int))) (iop .band .u64 (y : Int) (z : Int)) = ((maj x y z : Nat) : Int) := by
  rw [andL hx hy, andL hx hz, andL hy hz, xorL (and_lt hx) (and_lt hx), xorL (xor_lt (and_lt hx) (and_lt hx)) (and_lt hy)]
  rfl
theorem d_temp {v : Nat → Nat} (hv : ∀ j, j < 8 → v j < 2 ^ 32) {k w : Nat} (hk : k < 2 ^ 32) (hw : w < 2 ^ 32) :
    (iop .rem .u64 (IntKind.wrap .u64 ((IntKind.wrap .u64 ((IntKind.wrap .u64 ((IntKind.wrap .u64 (((v 7 : Nat) : Int) + ((S1 (v 4) : Nat) : Int))) + (iop .bxor .u64 (iop .band .u64 ((v 4 : Nat) : Int) ((v 5 : Nat) : Int)) (iop .band .u64 (IntKind.wrap .u64 (4294967295 - ((v 4 : Nat) : Int))) ((v 6 : Nat) : Int))))) + (k : Int))) + (w : Int))) 4294967296) = ((temp v k w : Nat) : Int) := by
  have a1 := S1_lt (hv 4 (by omega))
  have a2 := ch_lt (y := v 5) (z := v 6) (hv 4 (by omega))
  have a3 := hv 7 (by omega)
  rw [d_ch (hv 4 (by omega)) (hv 5 (by omega)) (hv 6 (by omega))]
  unfold temp
  generalize S1 (v 4) = s at *
  generalize ch (v 4) (v 5) (v 6) = c at *
  generalize v 7 = a at *
  rw [add64 (by omega), add64 (by omega), add64 (by omega), add64 (by omega), rem32]
theorem d_zero {v : Nat → Nat} (hv : ∀ j, j < 8 → v j < 2 ^ 32) {k w : Nat} (hk : k < 2 ^ 32) (hw : w < 2 ^ 32) :
    (iop .rem .u64 (IntKind.wrap .u64 ((iop .rem .u64 (IntKind.wrap .u64 ((IntKind.wrap .u64 ((IntKind.wrap .u64 ((IntKind.wrap .u64 (((v 7 : Nat) : Int) + ((S1 (v 4) : Nat) : Int))) + (iop .bxor .u64 (iop .band .u64 ((v 4 : Nat) : Int) ((v 5 : Nat) : Int)) (iop .band .u64 (IntKind.wrap .u64 (4294967295 - ((v 4 : Nat) : Int))) ((v 6 : Nat) : Int))))) + (k : Int))) + (w : Int))) 4294967296) + (iop .rem .u64 (IntKind.wrap .u64 (((S0 (v 0) : Nat) : Int) + (iop .bxor .u64 (iop .bxor .u64 (iop .band .u64 ((v 0 : Nat) : Int) ((v 1 : Nat) : Int)) (iop .band .u64 ((v 0 : Nat) : Int) ((v 2 : Nat) : Int))) (iop .band .u64 ((v 1 : Nat) : Int) ((v 2 : Nat) : Int))))) 4294967296))) 4294967296) = ((step v k w 0 : Nat) : Int) := by
  rw [step_0, d_temp hv hk hw, d_maj (hv 0 (by omega)) (hv 1 (by omega)) (hv 2 (by omega))]
  have a0 : temp v k w < 2 ^ 32 := Nat.mod_lt _ (Nat.two_pow_pos 32)
  have a1 := S0_lt (hv 0 (by omega))
  have a2 := maj_lt (z := v 2) (hv 0 (by omega)) (hv 1 (by omega))
  generalize temp v k w = t at *
  generalize S0 (v 0) = s at *
  generalize maj (v 0) (v 1) (v 2) = m at *
  have a3 : (s + m) % 2 ^ 32 < 2 ^ 32 := Nat.mod_lt _ (Nat.two_pow_pos 32)
  rw [add64 (by omega), rem32, add64 (by omega), rem32]
theorem d_four {v : Nat → Nat} (hv : ∀ j, j < 8 → v j < 2 ^ 32) {k w : Nat} (hk : k < 2 ^ 32) (hw : w < 2 ^ 32) :
    (iop .rem .u64 (IntKind.wrap .u64 (((v 3 : Nat) : Int) + (iop .rem .u64 (IntKind.wrap .u64 ((IntKind.wrap .u64 ((IntKind.wrap .u64 ((IntKind.wrap .u64 (((v 7 : Nat) : Int) + ((S1 (v 4) : Nat) : Int))) + (iop .bxor .u64 (iop .band .u64 ((v 4 : Nat) : Int) ((v 5 : Nat) : Int)) (iop .band .u64 (IntKind.wrap .u64 (4294967295 - ((v 4 : Nat) : Int))) ((v 6 : Nat) : Int))))) + (k : Int))) + (w : Int))) 4294967296))) 4294967296) = ((step v k w 4 : Nat) : Int) := by
  rw [step_4, d_temp hv hk hw]
  have a0 : temp v k w < 2 ^ 32 := Nat.mod_lt _ (Nat.two_pow_pos 32)
  have a1 := hv 3 (by omega)
  generalize temp v k w = t at *
  rw [add64 (by omega), rem32]

/-- A state of eight numbers, as the round leaves it. -/
abbrev stateHP (b : Nat) (v : Nat → Nat) : HP := rowHP b true [.int .u64 ((v 0 : Nat) : Int), .int .u64 ((v 1 : Nat) : Int), .int .u64 ((v 2 : Nat) : Int), .int .u64 ((v 3 : Nat) : Int), .int .u64 ((v 4 : Nat) : Int), .int .u64 ((v 5 : Nat) : Int), .int .u64 ((v 6 : Nat) : Int), .int .u64 ((v 7 : Nat) : Int)]
theorem round_meets (v0 : V1) (A0 : Nat → Int) (v : Nat → Nat) (k w : Nat) (hA : ∀ j, j < 8 → A0 j = ((v j : Nat) : Int)) (hv : ∀ j, j < 8 → v j < 2 ^ 32) (hk : k < 2 ^ 32) (hw : w < 2 ^ 32) :
    Meets Try.prog 134 [v0.v, .int .u64 (k : Int), .int .u64 (w : Int), .int .i64 32] [sliHP true 70 1 v0.v 8 (tabL 8 [colI .u64 1 A0])]
      (fun r hs => ∃ b : Nat, r = .slice (some ⟨b, 0, none⟩) 8 8 ∧ hs = [sliHP true 70 1 v0.v 8 (tabL 8 [colI .u64 1 A0]), stateHP b (step v k w)]) := by
  refine Meets.of_run (C := cx) (cnt := { v := 1, i := 2, a := 1 }) (ρ := { iv := [(k : Int), (w : Int)], av := [A0], vv := [v0] }) okT okFT okM Try.func134 (by constructor <;> rfl)
    (args := ([Go.RX.SV.vv 0, Go.RX.SV.int (Go.IntKind.u64) (Go.RX.E.var 0), Go.RX.SV.int (Go.IntKind.u64) (Go.RX.E.var 1), Go.RX.SV.int (Go.IntKind.i64) (Go.RX.E.lit 32)])) (hp := ([Go.RX.Ck.sli true 0 70 1 (Go.RX.E.lit 8) [{ ck := Go.RX.CK.int (Go.IntKind.u64), w := 1, a := Go.RX.E.avar 0 }]])) ?_
  rw [show runF cx 134 ([Go.RX.SV.vv 0, Go.RX.SV.int (Go.IntKind.u64) (Go.RX.E.var 0), Go.RX.SV.int (Go.IntKind.u64) (Go.RX.E.var 1), Go.RX.SV.int (Go.IntKind.i64) (Go.RX.E.lit 32)]) ([Go.RX.Ck.sli true 0 70 1 (Go.RX.E.lit 8) [{ ck := Go.RX.CK.int (Go.IntKind.u64), w := 1, a := Go.RX.E.avar 0 }]]) { v := 1, i := 2, a := 1 } Try.f134 = fm_round from run_round, vc_round]
  unfold st_round
  rw [hA 0 (by omega), hA 1 (by omega), hA 2 (by omega), hA 3 (by omega), hA 4 (by omega), hA 5 (by omega), hA 6 (by omega), hA 7 (by omega)]
  refine ⟨_, power_at 32 rfl rfl (by decide), ?_⟩
  rintro r hs ⟨rfl, rfl⟩
  refine ⟨rfl, rfl, ?_⟩
  refine ⟨_, four_meets1 (v 4) (hv 4 (by omega)), ?_⟩
  rintro r hs ⟨rfl, rfl⟩
  refine ⟨_, rfl, rfl, ?_⟩
  refine ⟨_, power_at 32 rfl rfl (by decide), ?_⟩
  rintro r hs ⟨rfl, rfl⟩
  refine ⟨rfl, rfl, ?_⟩
  refine ⟨_, four_meets0 (v 0) (hv 0 (by omega)), ?_⟩
  rintro r hs ⟨rfl, rfl⟩
  refine ⟨_, rfl, rfl, ?_⟩
  refine ⟨_, power_at 32 rfl rfl (by decide), ?_⟩
  rintro r hs ⟨rfl, rfl⟩
  refine ⟨rfl, rfl, ?_⟩
  refine ⟨_, power_at 32 rfl rfl (by decide), ?_⟩
  rintro r hs ⟨rfl, rfl⟩
  refine ⟨rfl, rfl, ?_⟩
  refine ⟨_, power_at 32 rfl rfl (by decide), ?_⟩
  rintro r hs ⟨rfl, rfl⟩
  refine ⟨rfl, rfl, ?_⟩
  intro b0
  rw [d_zero hv hk hw, d_four hv hk hw]
  refine ⟨b0, rfl, ?_⟩
  unfold stateHP
  rw [step_n v k w (j := 1) (by decide) (by decide) (by decide), step_n v k w (j := 2) (by decide) (by decide) (by decide), step_n v k w (j := 3) (by decide) (by decide) (by decide), step_n v k w (j := 5) (by decide) (by decide) (by decide),
    step_n v k w (j := 6) (by decide) (by decide) (by decide), step_n v k w (j := 7) (by decide) (by decide) (by decide)]
end Go.RX.Sh

namespace Go.RX
theorem rowSli_p {b t s n : Nat} {cs : List Value} (hl : cs.length = n * s) (hn : n ≤ maxLen) (w : World) (S : Nat → Prop) (h : (rowHP b true cs).p w S) : (sliHP true t s (.slice (some ⟨b, 0, none⟩) n n) n cs).p w S := by
  obtain ⟨h1, ty, fz, h2, h3⟩ := h
  have h4 := h3 rfl
  subst h4
  refine ⟨?_, fun k => ?_⟩
  · simp only [if_true]
    refine ⟨hl, .inr ⟨b, 0, n, cs.toArray, rfl, ⟨ty, h2⟩, Nat.le_refl _, hn, fun _ => ?_, ?_⟩⟩
    · simp [hl]
    · rw [List.drop_zero, ← hl]
      exact List.take_length
  · rw [h1 k]
    simp [Value.ownBlock, eq_comm]
theorem Ent.rowSli {a : List HP} (i : Nat) {b t s n : Nat} {cs : List Value} (hi : a[i]? = some (rowHP b true cs)) (hl : cs.length = n * s) (hn : n ≤ maxLen) : Ent a (a.set i (sliHP true t s (.slice (some ⟨b, 0, none⟩) n n) n cs)) :=
  Ent.put i _ _ hi (fun _ => rfl) fun w S h => ⟨S, fun _ h => h, rowSli_p hl hn w S h⟩
end Go.RX
namespace Go.RX.Sh
open Go.RX Go.Proofs

/-- The document's eighty constants of 64 bits. -/
def C64 : List Nat := [4794697086780616226, 8158064640168781261, 13096744586834688815, 16840607885511220156, 4131703408338449720, 6480981068601479193, 10538285296894168987, 12329834152419229976, 15566598209576043074, 1334009975649890238, 2608012711638119052, 6128411473006802146, 8268148722764581231, 9286055187155687089, 11230858885718282805, 13951009754708518548, 16472876342353939154, 17275323862435702243, 1135362057144423861, 2597628984639134821, 3308224258029322869, 5365058923640841347, 6679025012923562964, 8573033837759648693, 10970295158949994411, 12119686244451234320, 12683024718118986047, 13788192230050041572, 14330467153632333762, 15395433587784984357, 489312712824947311, 1452737877330783856, 2861767655752347644, 3322285676063803686, 5560940570517711597, 5996557281743188959, 7280758554555802590, 8532644243296465576, 9350256976987008742, 10552545826968843579, 11727347734174303076, 12113106623233404929, 14000437183269869457, 14369950271660146224, 15101387698204529176, 15463397548674623760, 17586052441742319658, 1182934255886127544, 1847814050463011016, 2177327727835720531, 2830643537854262169, 3796741975233480872, 4115178125766777443, 5681478168544905931, 6601373596472566643, 7507060721942968483, 8399075790359081724, 8693463985226723168, 9568029438360202098, 10144078919501101548, 10430055236837252648, 11840083180663258601, 13761210420658862357, 14299343276471374635, 14566680578165727644, 15097957966210449927, 16922976911328602910, 17689382322260857208, 500013540394364858, 748580250866718886, 1242879168328830382, 1977374033974150939, 2944078676154940804, 3659926193048069267, 4368137639120453308, 4836135668995329356, 5532061633213252278, 6448918945643986474, 6902733635092675308, 7801388544844847127]
def C0 (j : Nat) : Nat := C64.getD j 0
theorem consts_meets : Meets Try.prog 129 [] [] (fun r hs => ∃ v : V1, ∃ A : Nat → Int, r = v.v ∧ hs = [sliHP true 70 1 v.v 80 (tabL 80 [colI .u64 1 A])] ∧ ∀ j, j < 64 → IntKind.wrap .u64 (iop .quo .u64 (A j) 4294967296) = ((K0 j : Nat) : Int)) := by
  refine Meets.post (p := fun r hs => ∃ b : Nat, r = .slice (some ⟨b, 0, none⟩) 80 80 ∧ hs = [rowHP b true (tabL 80 [colI .u64 1 fun j => ((C0 j : Nat) : Int)])]) ?_ ?_
  · refine Meets.of_run (C := cx) (cnt := {}) (ρ := {}) okT okFT okM Try.func129 (by constructor <;> rfl) (args := []) (hp := []) ?_
    rw [show runF cx 129 [] [] {} Try.f129 = fm_consts from run_consts, vc_consts]
    unfold st_consts
    intro b0
    refine ⟨b0, rfl, congrArg (fun c => [rowHP b0 true c]) ?_⟩
    kernel_rfl
  · rintro r hs ⟨b, rfl, rfl⟩
    exact ⟨_, Ent.rowSli (t := 70) (s := 1) (n := 80) 0 rfl (by kernel_rfl) (by decide), ⟨.slice (some ⟨b, 0, none⟩) 80 80, rfl⟩, _, rfl, rfl, by decide +kernel⟩

theorem pad_text {A0 : Nat → Int} {I O N : Nat → Nat} {d0 d1 d2 d3 : Nat} (hA : ∀ j, j < 96 → A0 j = ((msg I O N d0 d1 d2 d3 j : Nat) : Int)) (j : Nat) (hj : j < 128) :
    (splF (updF (updF (updF (updF (updF (updF (updF (updF (updF (updF (updF (updF (updF (updF (updF (updF (updF (updF (updF (updF (updF (updF (updF (updF A0 96 128) 97 0) 98 0) 99 0) 100 0) 101 0) 102 0) 103 0) 104 0) 105 0) 106 0) 107 0) 108 0) 109 0) 110 0) 111 0) 112 0) 113 0) 114 0) 115 0) 116 0) 117 0) 118 0) 119 0) 120 8 (updF (updF (updF (updF (updF (updF (updF (updF (fun _ => 0) 7 0) 6 3) 5 0) 4 0) 3 0) 2 0) 1 0) 0 0)) j = ((msg I O N d0 d1 d2 d3 j : Nat) : Int) := by
  by_cases c : j < 96
  · rw [splF_out (by omega)]
    rw [updF_ne (by omega), updF_ne (by omega), updF_ne (by omega), updF_ne (by omega), updF_ne (by omega), updF_ne (by omega), updF_ne (by omega), updF_ne (by omega), updF_ne (by omega), updF_ne (by omega), updF_ne (by omega), updF_ne (by omega), updF_ne (by omega), updF_ne (by omega), updF_ne (by omega), updF_ne (by omega), updF_ne (by omega), updF_ne (by omega), updF_ne (by omega), updF_ne (by omega), updF_ne (by omega), updF_ne (by omega), updF_ne (by omega), updF_ne (by omega)]
    exact hA j c
  · have : j = 96 ∨ j = 97 ∨ j = 98 ∨ j = 99 ∨ j = 100 ∨ j = 101 ∨ j = 102 ∨ j = 103 ∨ j = 104 ∨ j = 105 ∨ j = 106 ∨ j = 107 ∨ j = 108 ∨ j = 109 ∨ j = 110 ∨ j = 111 ∨ j = 112 ∨ j = 113 ∨ j = 114 ∨ j = 115 ∨ j = 116 ∨ j = 117 ∨ j = 118 ∨ j = 119 ∨ j = 120 ∨ j = 121 ∨ j = 122 ∨ j = 123 ∨ j = 124 ∨ j = 125 ∨ j = 126 ∨ j = 127 := by omega
    clear hj c
    rcases this with rfl | rfl | rfl | rfl | rfl | rfl | rfl | rfl | rfl | rfl | rfl | rfl | rfl | rfl | rfl | rfl | rfl | rfl | rfl | rfl | rfl | rfl | rfl | rfl | rfl | rfl | rfl | rfl | rfl | rfl | rfl | rfl <;> rfl
theorem padded_meets (v0 : V1) (A0 : Nat → Int) (I O N : Nat → Nat) (d0 d1 d2 d3 : Nat) (hA : ∀ j, j < 96 → A0 j = ((msg I O N d0 d1 d2 d3 j : Nat) : Int)) :
    Meets Try.prog 131 [v0.v, .int .i64 32] [sliHP true 5 1 v0.v 96 (tabL 96 [colI .u8 1 A0])]
      (fun r hs => ∃ v : V1, ∃ A : Nat → Int, r = v.v ∧ hs = [sliHP true 5 1 v0.v 96 (tabL 96 [colI .u8 1 A0]), sliHP true 5 1 v.v 128 (tabL 128 [colI .u8 1 A])] ∧ ∀ j, j < 128 → A j = ((msg I O N d0 d1 d2 d3 j : Nat) : Int)) := by
  refine Meets.post (p := fun r hs => ∃ hs', Ent hs hs' ∧ ∃ v : V1, ∃ A : Nat → Int, r = v.v ∧ hs' = [sliHP true 5 1 v0.v 96 (tabL 96 [colI .u8 1 A0]), sliHP true 5 1 v.v 128 (tabL 128 [colI .u8 1 A])] ∧ ∀ j, j < 128 → A j = ((msg I O N d0 d1 d2 d3 j : Nat) : Int)) ?_ fun v hs h => h
  refine Meets.of_run (C := cx) (cnt := { v := 1, a := 1 }) (ρ := { av := [A0], vv := [v0] }) okT okFT okM Try.func131 (by constructor <;> rfl)
    (args := ([Go.RX.SV.vv 0, Go.RX.SV.int (Go.IntKind.i64) (Go.RX.E.lit 32)])) (hp := ([Go.RX.Ck.sli true 0 5 1 (Go.RX.E.lit 96) [{ ck := Go.RX.CK.int (Go.IntKind.u8), w := 1, a := Go.RX.E.avar 0 }]])) ?_
  rw [show runF cx 131 ([Go.RX.SV.vv 0, Go.RX.SV.int (Go.IntKind.i64) (Go.RX.E.lit 32)]) ([Go.RX.Ck.sli true 0 5 1 (Go.RX.E.lit 96) [{ ck := Go.RX.CK.int (Go.IntKind.u8), w := 1, a := Go.RX.E.avar 0 }]]) { v := 1, a := 1 } Try.f131 = fm_padded from run_padded, vc_padded]
  unfold st_padded
  intros
  exact ⟨_, Ent.sub (List.sublist_append_left [_, _] _), _, _, rfl, rfl, pad_text hA⟩

theorem round_sli (v0 : V1) (A0 : Nat → Int) (v : Nat → Nat) (k w : Nat) (hA : ∀ j, j < 8 → A0 j = ((v j : Nat) : Int)) (hv : ∀ j, j < 8 → v j < 2 ^ 32) (hk : k < 2 ^ 32) (hw : w < 2 ^ 32) :
    Meets Try.prog 134 [v0.v, .int .u64 (k : Int), .int .u64 (w : Int), .int .i64 32] [sliHP true 70 1 v0.v 8 (tabL 8 [colI .u64 1 A0])]
      (fun r hs => ∃ v1 : V1, ∃ A : Nat → Int, r = v1.v ∧ hs = [sliHP true 70 1 v1.v 8 (tabL 8 [colI .u64 1 A])] ∧ ∀ j, j < 8 → A j = ((step v k w j : Nat) : Int)) := by
  refine Meets.post (round_meets v0 A0 v k w hA hv hk hw) ?_
  rintro r hs ⟨b, rfl, rfl⟩
  refine ⟨_, Ent.trans (Ent.sub (List.sublist_cons_self _ _)) (Ent.rowSli (t := 70) (s := 1) (n := 8) 0 rfl rfl (by decide)), ⟨.slice (some ⟨b, 0, none⟩) 8 8, rfl⟩, fun j => ((step v k w j : Nat) : Int), rfl, ?_, fun _ _ => rfl⟩
  rfl
end Go.RX.Sh

namespace Go.RX.Sh
open Go.RX Go.Proofs

theorem m256 (n : Nat) : (256 : Int) * (n : Int) = ((n * 256 : Nat) : Int) := by omega
theorem d_word {a b c d : Nat} (ha : a < 256) (hb : b < 256) (hc : c < 256) (hd : d < 256) :
    IntKind.wrap .u64 ((IntKind.wrap .u64 (256 * (IntKind.wrap .u64 ((IntKind.wrap .u64 (256 * (IntKind.wrap .u64 ((IntKind.wrap .u64 (256 * (IntKind.wrap .u64 (IntKind.wrap .u64 (a : Int))))) + (IntKind.wrap .u64 (b : Int)))))) + (IntKind.wrap .u64 (c : Int)))))) + (IntKind.wrap .u64 (d : Int))) = ((((a * 256 + b) * 256 + c) * 256 + d : Nat) : Int) := by
  rw [wrap64 (n := a) (by omega), wrap64 (n := a) (by omega), m256 a, wrap64 (n := a * 256) (by omega), wrap64 (n := b) (by omega), add64 (by omega), m256, wrap64 (n := (a * 256 + b) * 256) (by omega), wrap64 (n := c) (by omega), add64 (by omega), m256, wrap64 (n := ((a * 256 + b) * 256 + c) * 256) (by omega), wrap64 (n := d) (by omega), add64 (by omega)]
theorem d_sch {a b c d : Nat} (ha : a < 2 ^ 32) (hb : b < 2 ^ 32) (hc : c < 2 ^ 32) (hd : d < 2 ^ 32) :
    iop .rem .u64 (IntKind.wrap .u64 ((IntKind.wrap .u64 ((IntKind.wrap .u64 ((a : Int) + (b : Int))) + (c : Int))) + (d : Int))) 4294967296 = (((a + b + c + d) % 2 ^ 32 : Nat) : Int) := by
  rw [add64 (by omega), add64 (by omega), add64 (by omega), rem32]
theorem d_sum {a b : Nat} (ha : a < 2 ^ 32) (hb : b < 2 ^ 32) : iop .rem .u64 (IntKind.wrap .u64 ((a : Int) + (b : Int))) 4294967296 = (((a + b) % 2 ^ 32 : Nat) : Int) := by
  rw [add64 (by omega), rem32]
theorem rem256 (a : Nat) : iop .rem .u64 (a : Int) 256 = ((a % 256 : Nat) : Int) := rem_u64 a 256
theorem d_out {w n : Nat} (hw : w < 2 ^ 32) : IntKind.wrap .u8 (iop .rem .u64 (IntKind.wrap .u64 (iop .quo .u64 (w : Int) ((2 ^ n : Nat) : Int))) 256) = ((w / 2 ^ n % 256 : Nat) : Int) := by
  rw [div64 hw, rem256, wrap_u8, Nat.mod_eq_of_lt (Nat.lt_of_lt_of_le (Nat.mod_lt _ (by decide)) (by decide))]
theorem o24 {w : Nat} (hw : w < 2 ^ 32) : IntKind.wrap .u8 (iop .rem .u64 (IntKind.wrap .u64 (iop .quo .u64 (w : Int) 16777216)) 256) = ((w / 2 ^ 24 % 256 : Nat) : Int) := d_out (n := 24) hw
theorem o16 {w : Nat} (hw : w < 2 ^ 32) : IntKind.wrap .u8 (iop .rem .u64 (IntKind.wrap .u64 (iop .quo .u64 (w : Int) 65536)) 256) = ((w / 2 ^ 16 % 256 : Nat) : Int) := d_out (n := 16) hw
theorem o8 {w : Nat} (hw : w < 2 ^ 32) : IntKind.wrap .u8 (iop .rem .u64 (IntKind.wrap .u64 (iop .quo .u64 (w : Int) 256)) 256) = ((w / 2 ^ 8 % 256 : Nat) : Int) := d_out (n := 8) hw
theorem o0 {w : Nat} (hw : w < 2 ^ 32) : IntKind.wrap .u8 (iop .rem .u64 (IntKind.wrap .u64 (iop .quo .u64 (w : Int) 1)) 256) = ((w / 2 ^ 0 % 256 : Nat) : Int) := d_out (n := 0) hw
theorem quo8 {t : Nat} (ht : t ≤ 64) : IntKind.wrap .i64 (iop .quo .i64 ((t : Int) * 32) 8) = ((4 * t : Nat) : Int) := by
  have h1 : iop .quo .i64 ((t : Int) * 32) 8 = ((t * 32 / 8 : Nat) : Int) := by
    show Int.tdiv ((t : Int) * 32) 8 = _
    rw [show (t : Int) * 32 = ((t * 32 : Nat) : Int) by omega]
    rfl
  rw [h1, show t * 32 / 8 = 4 * t by omega]
  simp [IntKind.wrap, IntKind.signed, IntKind.bits]
  omega

/-- The state behind so many blocks. -/
def hsh (M : Nat → Nat) : Nat → Nat → Nat
  | 0 => H0
  | q + 1 => comp K0 (hsh M q) (fun i => M (64 * q + i))
theorem hsh_lt (M : Nat → Nat) : ∀ q j, j < 8 → hsh M q j < 2 ^ 32
  | 0, j, hj => H0_lt j hj
  | _ + 1, j, _ => comp_lt j
theorem sum2_hsh (M : Nat → Nat) : sum2 M = bytesOf (hsh M 2) := by
  unfold sum2
  have h1 : (fun i => M (64 * 0 + i)) = M := funext fun i => congrArg M (by omega)
  have h2 : hsh M 2 = comp K0 (comp K0 H0 (fun i => M (64 * 0 + i))) (fun i => M (64 * 1 + i)) := rfl
  rw [h2, h1]

theorem rsum_meets (v0 : V1) (A0 : Nat → Int) (I O N : Nat → Nat) (d0 d1 d2 d3 : Nat) (hM : ∀ j, msg I O N d0 d1 d2 d3 j < 256) (hA : ∀ j, j < 96 → A0 j = ((msg I O N d0 d1 d2 d3 j : Nat) : Int)) :
    Meets Try.prog 113 [v0.v, .int .i64 32] [sliHP true 5 1 v0.v 96 (tabL 96 [colI .u8 1 A0])]
      (fun r hs => ∃ v : V1, ∃ A : Nat → Int, r = v.v ∧ hs = [sliHP true 5 1 v0.v 96 (tabL 96 [colI .u8 1 A0]), sliHP true 5 1 v.v 32 (tabL 32 [colI .u8 1 A])] ∧ ∀ j, j < 32 → A j = ((sum2 (msg I O N d0 d1 d2 d3) j : Nat) : Int)) := by
  refine Meets.post (p := fun r hs => ∃ v : V1, ∃ A : Nat → Int, r = v.v ∧ hs[0]? = some (sliHP true 5 1 v0.v 96 (tabL 96 [colI .u8 1 A0])) ∧ hs[4]? = some (sliHP true 5 1 v.v 32 (tabL 32 [colI .u8 1 A])) ∧ ∀ j, j < 32 → A j = ((sum2 (msg I O N d0 d1 d2 d3) j : Nat) : Int)) ?_ ?_
  rotate_left
  · rintro r hs ⟨v, A, rfl, h0, h4, hj⟩
    refine ⟨_, Ent.idx [0, 4] (by decide) ?_, v, A, rfl, rfl, hj⟩
    intro m u hu
    match m, hu with
    | 0, hu => cases hu; exact ⟨0, rfl, h0⟩
    | 1, hu => cases hu; exact ⟨4, rfl, h4⟩
    | m + 2, hu => simp at hu
  refine Meets.of_run (C := cx) (cnt := { v := 1, a := 1 }) (ρ := { av := [A0], vv := [v0] }) okT okFT okM Try.func113 (by constructor <;> rfl)
    (args := ([Go.RX.SV.vv 0, Go.RX.SV.int (Go.IntKind.i64) (Go.RX.E.lit 32)])) (hp := ([Go.RX.Ck.sli true 0 5 1 (Go.RX.E.lit 96) [{ ck := Go.RX.CK.int (Go.IntKind.u8), w := 1, a := Go.RX.E.avar 0 }]])) ?_
  rw [show runF cx 113 ([Go.RX.SV.vv 0, Go.RX.SV.int (Go.IntKind.i64) (Go.RX.E.lit 32)]) ([Go.RX.Ck.sli true 0 5 1 (Go.RX.E.lit 96) [{ ck := Go.RX.CK.int (Go.IntKind.u8), w := 1, a := Go.RX.E.avar 0 }]]) { v := 1, a := 1 } Try.f113 = fm_rsum from run_rsum, vc_rsum]
  unfold st_rsum
  intro b0
  refine ⟨_, consts_meets, ?_⟩
  rintro r hs ⟨v1, A1, rfl, rfl, hC⟩
  refine ⟨v1, A1, rfl, rfl, ?_⟩
  refine ⟨_, power_at 32 rfl rfl (by decide), ?_⟩
  rintro r hs ⟨rfl, rfl⟩
  refine ⟨rfl, rfl, ?_⟩
  refine ⟨_, padded_meets v0 A0 I O N d0 d1 d2 d3 hA, ?_⟩
  rintro r hs ⟨v2, A2, rfl, rfl, hP⟩
  refine ⟨v2, A2, rfl, rfl, ?_⟩
  generalize msg I O N d0 d1 d2 d3 = M at *
  refine ⟨fun e => ∃ q : Nat, q ≤ 2 ∧ e.i = eight (hsh M q) (64 * q), fun e => (128 - e.i.getD 8 0).toNat, ⟨_, _, _, _, _, _, _, _, _, rfl, rfl, rfl, rfl, rfl, rfl, rfl, rfl, rfl, 0, by omega, ?_⟩, ?_⟩
  · show _ = eight H0 0
    decide +kernel
  rintro x0 x1 x2 x3 x4 x5 x6 x7 x8 ⟨q, hq, hx⟩
  simp only [eight, List.cons.injEq, and_true] at hx
  obtain ⟨rfl, rfl, rfl, rfl, rfl, rfl, rfl, rfl, rfl⟩ := hx
  have hH := hsh_lt M q
  refine ⟨fun hlt => ?_, fun hge => ?_⟩
  · have hB : ∀ j, j < 64 → (fun i => M (64 * q + i)) j < 256 := fun j _ => hM _
    obtain ⟨B, hBd⟩ : ∃ B : Nat → Nat, B = fun i => M (64 * q + i) := ⟨_, rfl⟩
    rw [← hBd] at hB
    have hMB : ∀ j, j < 64 → A2 (64 * q + j) = ((B j : Nat) : Int) := fun j hj => by rw [hP _ (by omega), hBd]
    refine ⟨fun e => ∃ t : Nat, t ≤ 16 ∧ e.i = [(t : Int)] ∧ ∀ j, j < t → e.a.getD 0 (fun _ => 0) j = ((word B j : Nat) : Int), fun e => (16 - e.i.getD 0 0).toNat, ⟨_, 0, fun _ => 0, rfl, rfl, rfl, rfl, fun _ _ => rfl, 0, by omega, rfl, fun j hj => absurd hj (by omega)⟩, ?_⟩
    rintro v4 x9 A3 ⟨t, ht, hx, h3⟩
    simp only [List.cons.injEq, and_true] at hx
    subst hx
    simp only [List.getD_cons_zero] at h3
    rw [quo8 (by omega)]
    refine ⟨fun hlt => ?_, fun hge => ?_⟩
    · rw [show Int.toNat (((64 * q : Nat) : Int) + ((4 * t : Nat) : Int)) = 64 * q + 4 * t by omega, show Int.toNat (((64 * q : Nat) : Int) + ((4 * t : Nat) : Int) + 1) = 64 * q + (4 * t + 1) by omega, show Int.toNat (((64 * q : Nat) : Int) + ((4 * t : Nat) : Int) + 2) = 64 * q + (4 * t + 2) by omega, show Int.toNat (((64 * q : Nat) : Int) + ((4 * t : Nat) : Int) + 3) = 64 * q + (4 * t + 3) by omega]
      rw [hMB _ (by omega), hMB _ (by omega), hMB _ (by omega), hMB _ (by omega), d_word (hB _ (by omega)) (hB _ (by omega)) (hB _ (by omega)) (hB _ (by omega))]
      refine ⟨by omega, fun _ => ?_⟩
      refine ⟨by omega, fun _ => ?_⟩
      refine ⟨by omega, fun _ => ?_⟩
      refine ⟨by omega, fun _ => ?_⟩
      refine ⟨by omega, fun _ => ?_⟩
      refine ⟨by omega, fun _ => ?_⟩
      refine ⟨by omega, fun _ => ?_⟩
      refine ⟨by omega, fun _ => ?_⟩
      refine ⟨by omega, fun _ => ?_⟩
      refine ⟨by omega, fun _ => ?_⟩
      refine ⟨by omega, fun _ => ?_⟩
      refine ⟨by omega, fun _ => ?_⟩
      refine ⟨by omega, fun _ => ?_⟩
      refine ⟨by omega, fun _ => ?_⟩
      refine ⟨by omega, fun _ => ?_⟩
      refine ⟨by omega, fun _ => ?_⟩
      refine ⟨by omega, fun _ => ?_⟩
      refine ⟨by omega, fun _ => ?_⟩
      intro b1
      refine ⟨by omega, fun _ => ?_⟩
      refine ⟨by omega, fun _ => ?_⟩
      intro v5
      refine ⟨by omega, fun _ => ?_⟩
      refine ⟨by omega, fun _ => ?_⟩
      refine ⟨_, (t : Int) + 1, _, rfl, rfl, rfl, rfl, fun _ _ => rfl, ⟨t + 1, by omega, rfl, fun j hj => ?_⟩, ?_⟩
      · simp only [List.getD_cons_zero]
        rw [Int.toNat_natCast]
        by_cases hjt : j = t
        · subst hjt
          unfold updF
          rw [if_pos rfl]
          rfl
        · rw [updF_ne hjt]
          exact h3 j (by omega)
      · simp only [List.getD_cons_zero]; omega
    have ht16 : t = 16 := by omega
    subst ht16
    refine ⟨fun e => ∃ n : Nat, n ≤ 48 ∧ e.i = [((n + 16 : Nat) : Int)] ∧ ∀ j, j < n + 16 → e.a.getD 0 (fun _ => 0) j = ((sch B n j : Nat) : Int), fun e => (64 - e.i.getD 0 0).toNat, ⟨_, _, A3, rfl, rfl, rfl, rfl, fun _ _ => rfl, 0, by omega, rfl, fun j hj => ?_⟩, ?_⟩
    · simp only [List.getD_cons_zero]
      rw [h3 j (by omega)]
      unfold sch
      rw [if_pos (by omega)]
    rintro v5 x10 A4 ⟨n, hn, hx, h4⟩
    simp only [List.cons.injEq, and_true] at hx
    subst hx
    simp only [List.getD_cons_zero] at h4
    have hl := sch_lt hB n
    refine ⟨fun hlt => ?_, fun hge => ?_⟩
    · rw [show Int.toNat (((n + 16 : Nat) : Int) - 2) = n + 14 by omega, show Int.toNat (((n + 16 : Nat) : Int) - 7) = n + 9 by omega, show Int.toNat (((n + 16 : Nat) : Int) - 15) = n + 1 by omega, show Int.toNat (((n + 16 : Nat) : Int) - 16) = n by omega]
      rw [h4 (n + 14) (by omega), h4 (n + 9) (by omega), h4 (n + 1) (by omega), h4 n (by omega)]
      refine ⟨by omega, fun _ => ?_⟩
      refine ⟨by omega, fun _ => ?_⟩
      refine ⟨by omega, fun _ => ?_⟩
      refine ⟨by omega, fun _ => ?_⟩
      refine ⟨by omega, fun _ => ?_⟩
      refine ⟨by omega, fun _ => ?_⟩
      refine ⟨by omega, fun _ => ?_⟩
      refine ⟨by omega, fun _ => ?_⟩
      refine ⟨by omega, fun _ => ?_⟩
      refine ⟨by omega, fun _ => ?_⟩
      refine ⟨by omega, fun _ => ?_⟩
      refine ⟨by omega, fun _ => ?_⟩
      refine ⟨by omega, fun _ => ?_⟩
      refine ⟨by omega, fun _ => ?_⟩
      refine ⟨by omega, fun _ => ?_⟩
      refine ⟨by omega, fun _ => ?_⟩
      refine ⟨_, four_meets3 _ (hl _), ?_⟩
      rintro r hs ⟨rfl, rfl⟩
      refine ⟨_, rfl, rfl, ?_⟩
      refine ⟨_, four_meets2 _ (hl _), ?_⟩
      rintro r hs ⟨rfl, rfl⟩
      refine ⟨_, rfl, rfl, ?_⟩
      refine ⟨_, power_at 32 rfl rfl (by decide), ?_⟩
      rintro r hs ⟨rfl, rfl⟩
      refine ⟨rfl, rfl, ?_⟩
      rw [d_sch (s1_lt (hl _)) (hl _) (s0_lt (hl _)) (hl _)]
      intro b1
      refine ⟨by omega, fun _ => ?_⟩
      refine ⟨by omega, fun _ => ?_⟩
      intro v6
      refine ⟨by omega, fun _ => ?_⟩
      refine ⟨by omega, fun _ => ?_⟩
      refine ⟨_, ((n + 16 : Nat) : Int) + 1, _, rfl, rfl, rfl, rfl, fun _ _ => rfl, ⟨n + 1, by omega, ?_, fun j hj => ?_⟩, ?_⟩
      · exact congrArg (fun x => [x]) (show ((n + 16 : Nat) : Int) + 1 = ((n + 1 + 16 : Nat) : Int) by omega)
      · simp only [List.getD_cons_zero]
        rw [Int.toNat_natCast, sch]
        unfold updF
        dsimp only
        by_cases hjt : j = n + 16
        · rw [if_pos hjt, if_pos hjt]
        · rw [if_neg hjt, if_neg hjt]
          exact h4 j (by omega)
      · simp only [List.getD_cons_zero]; omega
    have hn48 : n = 48 := by omega
    subst hn48
    intro v6 v7
    have hv := rnd_lt (K := K0) (W := sch B 48) hH
    refine ⟨fun e => ∃ a : Nat, a ≤ 64 ∧ e.i = [(a : Int)] ∧ ∀ j, j < 8 → e.a.getD 0 (fun _ => 0) j = ((rnd K0 (sch B 48) (hsh M q) a j : Nat) : Int), fun e => (64 - e.i.getD 0 0).toNat, ⟨_, 0, _, rfl, rfl, rfl, fun _ _ => rfl, 0, by omega, rfl, fun j hj => ?_⟩, ?_⟩
    · simp only [List.getD_cons_zero]
      unfold updF
      match j, hj with
      | 0, _ => rfl
      | 1, _ => rfl
      | 2, _ => rfl
      | 3, _ => rfl
      | 4, _ => rfl
      | 5, _ => rfl
      | 6, _ => rfl
      | 7, _ => rfl
    rintro v8 x11 A5 ⟨a, ha, hx, h5⟩
    simp only [List.cons.injEq, and_true] at hx
    subst hx
    simp only [List.getD_cons_zero] at h5
    refine ⟨fun hlt => ?_, fun hge => ?_⟩
    · rw [Int.toNat_natCast, hC a (by omega), h4 a (by omega)]
      refine ⟨by omega, fun _ => ?_⟩
      refine ⟨by omega, fun _ => ?_⟩
      refine ⟨by omega, fun _ => ?_⟩
      refine ⟨_, round_sli v8 A5 (rnd K0 (sch B 48) (hsh M q) a) (K0 a) (sch B 48 a) h5 (hv a) (K0_lt a (by omega)) (hl a), ?_⟩
      rintro r hs ⟨v9, A6, rfl, rfl, h6⟩
      refine ⟨v9, A6, rfl, rfl, ?_⟩
      refine ⟨by omega, fun _ => ?_⟩
      refine ⟨by omega, fun _ => ?_⟩
      refine ⟨_, (a : Int) + 1, A6, rfl, rfl, rfl, fun _ _ => rfl, ⟨a + 1, by omega, rfl, h6⟩, ?_⟩
      simp only [List.getD_cons_zero]; omega
    have ha64 : a = 64 := by omega
    subst ha64
    refine ⟨_, power_at 32 rfl rfl (by decide), ?_⟩
    rintro r hs ⟨rfl, rfl⟩
    refine ⟨rfl, rfl, ?_⟩
    refine ⟨_, power_at 32 rfl rfl (by decide), ?_⟩
    rintro r hs ⟨rfl, rfl⟩
    refine ⟨rfl, rfl, ?_⟩
    refine ⟨_, power_at 32 rfl rfl (by decide), ?_⟩
    rintro r hs ⟨rfl, rfl⟩
    refine ⟨rfl, rfl, ?_⟩
    refine ⟨_, power_at 32 rfl rfl (by decide), ?_⟩
    rintro r hs ⟨rfl, rfl⟩
    refine ⟨rfl, rfl, ?_⟩
    refine ⟨_, power_at 32 rfl rfl (by decide), ?_⟩
    rintro r hs ⟨rfl, rfl⟩
    refine ⟨rfl, rfl, ?_⟩
    refine ⟨_, power_at 32 rfl rfl (by decide), ?_⟩
    rintro r hs ⟨rfl, rfl⟩
    refine ⟨rfl, rfl, ?_⟩
    refine ⟨_, power_at 32 rfl rfl (by decide), ?_⟩
    rintro r hs ⟨rfl, rfl⟩
    refine ⟨rfl, rfl, ?_⟩
    refine ⟨_, power_at 32 rfl rfl (by decide), ?_⟩
    rintro r hs ⟨rfl, rfl⟩
    refine ⟨rfl, rfl, ?_⟩
    have hv64 := hv 64
    obtain ⟨R, hR⟩ : ∃ R : Nat → Nat, R = rnd K0 (sch B 48) (hsh M q) 64 := ⟨_, rfl⟩
    have hc := comp_of hR
    rw [← hR] at h5 hv64
    have hs : hsh M (q + 1) = comp K0 (hsh M q) B := by rw [hBd]; rfl
    rw [h5 0 (by omega), h5 1 (by omega), h5 2 (by omega), h5 3 (by omega), h5 4 (by omega), h5 5 (by omega), h5 6 (by omega), h5 7 (by omega)]
    rw [d_sum (hH 0 (by omega)) (hv64 0 (by omega)), d_sum (hH 1 (by omega)) (hv64 1 (by omega)), d_sum (hH 2 (by omega)) (hv64 2 (by omega)), d_sum (hH 3 (by omega)) (hv64 3 (by omega)), d_sum (hH 4 (by omega)) (hv64 4 (by omega)), d_sum (hH 5 (by omega)) (hv64 5 (by omega)), d_sum (hH 6 (by omega)) (hv64 6 (by omega)), d_sum (hH 7 (by omega)) (hv64 7 (by omega))]
    rw [← hc 0, ← hc 1, ← hc 2, ← hc 3, ← hc 4, ← hc 5, ← hc 6, ← hc 7, ← hs]
    refine ⟨by omega, fun _ => ?_⟩
    refine ⟨by omega, fun _ => ?_⟩
    refine ⟨_, _, _, _, _, _, _, _, ((64 * q : Nat) : Int) + 64, rfl, rfl, rfl, rfl, rfl, rfl, rfl, rfl, rfl, ⟨q + 1, by omega, ?_⟩, ?_⟩
    · rw [show ((64 * q : Nat) : Int) + 64 = ((64 * (q + 1) : Nat) : Int) by omega]
      rfl
    · simp only [List.getD_cons_zero, List.getD_cons_succ]; omega
  have hq2 : q = 2 := by omega
  subst hq2
  rw [sum2_hsh]
  generalize hsh M 2 = C at *
  refine ⟨fun e => ∃ a : Nat, a ≤ 8 ∧ e.i = [(a : Int), ((4 * a : Nat) : Int)] ∧ (∀ j, j < 8 → e.a.getD 1 (fun _ => 0) j = ((C j : Nat) : Int)) ∧ ∀ j, j < 4 * a → e.a.getD 0 (fun _ => 0) j = ((bytesOf C j : Nat) : Int), fun e => (8 - e.i.getD 0 0).toNat,
    ⟨_, 0, 0, fun _ => 0, _, rfl, rfl, fun _ _ => rfl, rfl, rfl, fun _ _ => rfl, 0, by omega, rfl, fun j hj => ?_, fun j hj => absurd hj (by omega)⟩, ?_⟩
  · simp only [List.getD_cons_zero, List.getD_cons_succ]
    unfold updF
    match j, hj with
    | 0, _ => rfl
    | 1, _ => rfl
    | 2, _ => rfl
    | 3, _ => rfl
    | 4, _ => rfl
    | 5, _ => rfl
    | 6, _ => rfl
    | 7, _ => rfl
  rintro v4 x9 x10 A3 A4 ⟨a, ha, hx, h4, h3⟩
  simp only [List.cons.injEq, and_true] at hx
  obtain ⟨rfl, rfl⟩ := hx
  simp only [List.getD_cons_zero, List.getD_cons_succ] at h4 h3
  refine ⟨fun hlt => ?_, fun hge => ?_⟩
  · rw [show Int.toNat (a : Int) = a from Int.toNat_natCast a, h4 a (by omega), o24 (hH a (by omega)), o16 (hH a (by omega)), o8 (hH a (by omega)), o0 (hH a (by omega))]
    refine ⟨by omega, fun _ => ?_⟩
    refine ⟨_, power_at 24 rfl rfl (by decide), ?_⟩
    rintro r hs ⟨rfl, rfl⟩
    refine ⟨rfl, rfl, ?_⟩
    intro b1
    refine ⟨by omega, fun _ => ?_⟩
    refine ⟨by omega, fun _ => ?_⟩
    intro v5
    refine ⟨_, power_at 16 rfl rfl (by decide), ?_⟩
    rintro r hs ⟨rfl, rfl⟩
    refine ⟨rfl, rfl, ?_⟩
    intro b2
    refine ⟨by omega, fun _ => ?_⟩
    refine ⟨by omega, fun _ => ?_⟩
    intro v6
    refine ⟨_, power_at 8 rfl rfl (by decide), ?_⟩
    rintro r hs ⟨rfl, rfl⟩
    refine ⟨rfl, rfl, ?_⟩
    intro b3
    refine ⟨by omega, fun _ => ?_⟩
    refine ⟨by omega, fun _ => ?_⟩
    intro v7
    refine ⟨_, power_at 0 rfl rfl (by decide), ?_⟩
    rintro r hs ⟨rfl, rfl⟩
    refine ⟨rfl, rfl, ?_⟩
    intro b4
    refine ⟨by omega, fun _ => ?_⟩
    refine ⟨by omega, fun _ => ?_⟩
    intro v8
    refine ⟨by omega, fun _ => ?_⟩
    refine ⟨by omega, fun _ => ?_⟩
    refine ⟨_, (a : Int) + 1, _, _, A4, rfl, rfl, fun _ _ => rfl, rfl, rfl, fun _ _ => rfl, ⟨a + 1, by omega, ?_, ?_, fun j hj => ?_⟩, ?_⟩
    · rw [show ((4 * a : Nat) : Int) + 1 + 1 + 1 + 1 = ((4 * (a + 1) : Nat) : Int) by omega]
      rfl
    · simp only [List.getD_cons_zero, List.getD_cons_succ]
      exact h4
    · simp only [List.getD_cons_zero]
      rw [show Int.toNat ((4 * a : Nat) : Int) = 4 * a by omega, show Int.toNat (((4 * a : Nat) : Int) + 1) = 4 * a + 1 by omega, show Int.toNat (((4 * a : Nat) : Int) + 1 + 1) = 4 * a + 2 by omega, show Int.toNat (((4 * a : Nat) : Int) + 1 + 1 + 1) = 4 * a + 3 by omega]
      unfold updF bytesOf
      by_cases j3 : j = 4 * a + 3
      · rw [if_pos j3, show j / 4 = a by omega, show 24 - 8 * (j % 4) = 0 by omega]
      rw [if_neg j3]
      by_cases j2 : j = 4 * a + 2
      · rw [if_pos j2, show j / 4 = a by omega, show 24 - 8 * (j % 4) = 8 by omega]
      rw [if_neg j2]
      by_cases j1 : j = 4 * a + 1
      · rw [if_pos j1, show j / 4 = a by omega, show 24 - 8 * (j % 4) = 16 by omega]
      rw [if_neg j1]
      by_cases j0 : j = 4 * a
      · rw [if_pos j0, show j / 4 = a by omega, show 24 - 8 * (j % 4) = 24 by omega]
      rw [if_neg j0]
      exact h3 j (by omega)
    · simp only [List.getD_cons_zero]; omega
  have ha8 : a = 8 := by omega
  subst ha8
  exact ⟨_, _, rfl, rfl, rfl, fun j hj => h3 j (by omega)⟩
end Go.RX.Sh
