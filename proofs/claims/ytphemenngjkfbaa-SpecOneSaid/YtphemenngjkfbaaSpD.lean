/- SpecOne: a new system. -/
import Derived.Test.YtphemenngjkfbaaSpA
import Derived.Test.YtphemenngjkfbaaSnAnn
import Derived.Test.YtphemenngjkfbaaRxZh
import Derived.Test.YtphemenngjkfbaaSpC

namespace Go.RX.Sl
open Go.RX Go.Proofs
noncomputable def cx : Ctx := { T := TT, FT := FT, loops := Sl.loops, calls := Sl.calls, ghosts := Sl.ghosts }
end Go.RX.Sl
namespace Go.RX.Sn
open Go.RX Go.Proofs
noncomputable def cx : Ctx := { T := TT, FT := FT, loops := Sn.loops, ghosts := Sn.ghosts }
end Go.RX.Sn

namespace Go.RX.Sl
open Go.RX Go.Proofs
set_option maxRecDepth 100000
noncomputable def fm_law : F := runF cx 7 ([Go.RX.SV.agg [Go.RX.SV.seg (Go.IntKind.u8) 8 (Go.RX.E.avar 10)], Go.RX.SV.vv 0]) ([Go.RX.Ck.sli false 0 76 56 (Go.RX.E.var 0) [{ ck := Go.RX.CK.int (Go.IntKind.u8), w := 1, a := Go.RX.E.avar 0 }, { ck := Go.RX.CK.int (Go.IntKind.u8), w := 1, a := Go.RX.E.avar 1 }, { ck := Go.RX.CK.int (Go.IntKind.u8), w := 1, a := Go.RX.E.avar 2 }, { ck := Go.RX.CK.int (Go.IntKind.u64), w := 1, a := Go.RX.E.avar 3 }, { ck := Go.RX.CK.int (Go.IntKind.u8), w := 16, a := Go.RX.E.avar 4 }, { ck := Go.RX.CK.int (Go.IntKind.u8), w := 1, a := Go.RX.E.avar 5 }, { ck := Go.RX.CK.int (Go.IntKind.u8), w := 1, a := Go.RX.E.avar 6 }, { ck := Go.RX.CK.int (Go.IntKind.u8), w := 1, a := Go.RX.E.avar 7 }, { ck := Go.RX.CK.int (Go.IntKind.u8), w := 32, a := Go.RX.E.avar 8 }, { ck := Go.RX.CK.int (Go.IntKind.u8), w := 1, a := Go.RX.E.avar 9 }]]) ({ b := 0, v := 1, i := 1, a := 11, bo := 0, p := 0, r := 0 }) Try.f7
def st_law (P : Program) (Post : Value → List HP → Prop) (x0 : Int) (A0 : Nat → Int) (A1 : Nat → Int) (A2 : Nat → Int) (A3 : Nat → Int) (A4 : Nat → Int) (A5 : Nat → Int) (A6 : Nat → Int) (A7 : Nat → Int) (A8 : Nat → Int) (A9 : Nat → Int) (A10 : Nat → Int) (_ : V1) : Prop :=
∀ _ : Nat, ∀ _ : Nat, ∃ post, Meets P 34 [] [] post ∧
∀ x hs, post x hs → x = .bool true ∧ hs = [] ∧
 Need (0 ≤ x0) (
 Fork (200 < x0) (
  Post (.bool true) []) (
  ∃ post, Meets P 35 [.agg (List.append (segCells .u8 8 A10) ([])).toArray] [] post ∧
  ∀ x hs, post x hs → ∃ b2 : Nat, ∃ p0 : HP, x = .pointer (some ⟨b2, 0, none⟩) ∧ hs = [p0] ∧
  ∀ _ : Nat, ∀ _ : Nat, ∀ _ : Nat, ∃ (I0x2 : Ext → Prop) (m0x2 : Ext → Nat), (∃ x1 : Int, ∃ A11 : (Nat → Int), ∃ A12 : (Nat → Int), ∃ A13 : (Nat → Int), ∃ A14 : (Nat → Int), ∃ A15 : (Nat → Int), ∃ A16 : (Nat → Int), ∃ A17 : (Nat → Int), ∃ A18 : (Nat → Int), ∃ p1 : HP, x1 = 0 ∧ p1 = p0 ∧ (A11 = (fun _ => 0)) ∧ (A12 = (fun _ => 0)) ∧ (A13 = (fun _ => 0)) ∧ (A14 = (fun _ => 0)) ∧ (A15 = (fun _ => 0)) ∧ (A16 = (fun _ => 0)) ∧ (A17 = (fun _ => 0)) ∧ (A18 = (fun _ => 0)) ∧ I0x2 ⟨[], [], [x1], [A11, A12, A13, A14, A15, A16, A17, A18], [], [p1], []⟩) ∧
  ∀ x1 : Int, ∀ A11 : (Nat → Int), ∀ A12 : (Nat → Int), ∀ A13 : (Nat → Int), ∀ A14 : (Nat → Int), ∀ A15 : (Nat → Int), ∀ A16 : (Nat → Int), ∀ A17 : (Nat → Int), ∀ A18 : (Nat → Int), ∀ p1 : HP, I0x2 ⟨[], [], [x1], [A11, A12, A13, A14, A15, A16, A17, A18], [], [p1], []⟩ →
    Fork (x1 < x0) (
      Need (0 ≤ x1) (
      ∀ b6 : Nat, ∃ post, Meets P 36 [.pointer (some ⟨b2, 0, none⟩), .agg (.int .u8 (A0 (Int.toNat x1)) :: (.int .u8 (A1 (Int.toNat x1)) :: (.int .u8 (A2 (Int.toNat x1)) :: (.int .u64 (A3 (Int.toNat x1)) :: (List.append (segCells .u8 16 (shiftF A4 (Int.toNat (x1 * 16)))) (.int .u8 (A5 (Int.toNat x1)) :: (.int .u8 (A6 (Int.toNat x1)) :: (.int .u8 (A7 (Int.toNat x1)) :: (List.append (segCells .u8 32 (shiftF A8 (Int.toNat (x1 * 32)))) ([.int .u8 (A9 (Int.toNat x1))])))))))))).toArray] [p1] post ∧
      ∀ x hs, post x hs → ∃ x2 : Int, ∃ p2 : HP, x = .int .i64 x2 ∧ hs = [p2] ∧
      Fork (¬ (x2 = 0)) (
        Need ((-9223372036854775808) ≤ (x1 + 1)) (
        Need ((x1 + 1) ≤ 9223372036854775807) (
        ∃ x1' : Int, ∃ A11' : (Nat → Int), ∃ A12' : (Nat → Int), ∃ A13' : (Nat → Int), ∃ A14' : (Nat → Int), ∃ A15' : (Nat → Int), ∃ A16' : (Nat → Int), ∃ A17' : (Nat → Int), ∃ A18' : (Nat → Int), ∃ p1' : HP, x1' = (x1 + 1) ∧ p1' = p2 ∧ (A11' = A11) ∧ (A12' = A12) ∧ (A13' = A13) ∧ (A14' = A14) ∧ (A15' = A15) ∧ (A16' = A16) ∧ (A17' = A17) ∧ (A18' = A18) ∧ I0x2 ⟨[], [], [x1'], [A11', A12', A13', A14', A15', A16', A17', A18'], [], [p1'], []⟩ ∧ m0x2 ⟨[], [], [x1'], [A11', A12', A13', A14', A15', A16', A17', A18'], [], [p1'], []⟩ < m0x2 ⟨[], [], [x1], [A11, A12, A13, A14, A15, A16, A17, A18], [], [p1], []⟩))) (
        Fork ((A0 (Int.toNat x1)) = 1) (
          ∃ post, Meets P 37 [.pointer (some ⟨b2, 0, none⟩), .agg (List.append (segCells .u8 16 (shiftF A4 (Int.toNat (x1 * 16)))) ([])).toArray] [p2] post ∧
          ∀ x hs, post x hs → ∃ x3 : Int, ∃ x4 : Int, ∃ q0 : Bool, x = .tuple #[.agg #[.int .u8 x3, .int .u8 x4], .bool q0] ∧ hs = [p2] ∧
          ∀ b7 : Nat, ∀ b8 : Nat, Fork (((A11 (Int.toNat ((kcode ((List.range 16).map (shiftF A4 (Int.toNat (x1 * 16)))) : Nat) : Int))) ≠ 0) ∧ ((¬ (q0 = true)) ∨ (¬ (((A12 (Int.toNat ((kcode ((List.range 16).map (shiftF A4 (Int.toNat (x1 * 16)))) : Nat) : Int))) = x3) ∧ ((A13 (Int.toNat ((kcode ((List.range 16).map (shiftF A4 (Int.toNat (x1 * 16)))) : Nat) : Int))) = x4))))) (
            Post (.bool false) []) (
            Fork (q0 = true) (
              Fork ((A0 (Int.toNat x1)) = 4) (
                ∀ b9 : Nat, Fork ((((A14 (Int.toNat ((kcode ((List.range 16).map (shiftF A4 (Int.toNat (x1 * 16)))) : Nat) : Int))) ≠ 0) ∧ (¬ (∀ j, j < 32 → (shiftF A15 (Int.toNat (((kcode ((List.range 16).map (shiftF A4 (Int.toNat (x1 * 16)))) : Nat) : Int) * 32))) j = (shiftF A8 (Int.toNat (x1 * 32))) j))) ∨ ((¬ (((A1 (Int.toNat x1)) = x3) ∧ ((A2 (Int.toNat x1)) = x4))) ∧ (false = true))) (
                  Post (.bool false) []) (
                  Need ((-9223372036854775808) ≤ (x1 + 1)) (
                  Need ((x1 + 1) ≤ 9223372036854775807) (
                  ∃ x1' : Int, ∃ A11' : (Nat → Int), ∃ A12' : (Nat → Int), ∃ A13' : (Nat → Int), ∃ A14' : (Nat → Int), ∃ A15' : (Nat → Int), ∃ A16' : (Nat → Int), ∃ A17' : (Nat → Int), ∃ A18' : (Nat → Int), ∃ p1' : HP, x1' = (x1 + 1) ∧ p1' = p2 ∧ (A11' = (updF A11 (Int.toNat ((kcode ((List.range 16).map (shiftF A4 (Int.toNat (x1 * 16)))) : Nat) : Int)) 1)) ∧ (A12' = (updF A12 (Int.toNat ((kcode ((List.range 16).map (shiftF A4 (Int.toNat (x1 * 16)))) : Nat) : Int)) x3)) ∧ (A13' = (updF A13 (Int.toNat ((kcode ((List.range 16).map (shiftF A4 (Int.toNat (x1 * 16)))) : Nat) : Int)) x4)) ∧ (A14' = (updF A14 (Int.toNat ((kcode ((List.range 16).map (shiftF A4 (Int.toNat (x1 * 16)))) : Nat) : Int)) 1)) ∧ (A15' = (splF A15 (Int.toNat (((kcode ((List.range 16).map (shiftF A4 (Int.toNat (x1 * 16)))) : Nat) : Int) * 32)) 32 (shiftF A8 (Int.toNat (x1 * 32))))) ∧ (A16' = (updF A16 (Int.toNat ((kcode ((List.range 16).map (shiftF A4 (Int.toNat (x1 * 16)))) : Nat) : Int)) 1)) ∧ (A17' = (updF A17 (Int.toNat ((kcode ((List.range 16).map (shiftF A4 (Int.toNat (x1 * 16)))) : Nat) : Int)) (A1 (Int.toNat x1)))) ∧ (A18' = (updF A18 (Int.toNat ((kcode ((List.range 16).map (shiftF A4 (Int.toNat (x1 * 16)))) : Nat) : Int)) (A2 (Int.toNat x1)))) ∧ I0x2 ⟨[], [], [x1'], [A11', A12', A13', A14', A15', A16', A17', A18'], [], [p1'], []⟩ ∧ m0x2 ⟨[], [], [x1'], [A11', A12', A13', A14', A15', A16', A17', A18'], [], [p1'], []⟩ < m0x2 ⟨[], [], [x1], [A11, A12, A13, A14, A15, A16, A17, A18], [], [p1], []⟩)))) (
                Need ((-9223372036854775808) ≤ (x1 + 1)) (
                Need ((x1 + 1) ≤ 9223372036854775807) (
                ∃ x1' : Int, ∃ A11' : (Nat → Int), ∃ A12' : (Nat → Int), ∃ A13' : (Nat → Int), ∃ A14' : (Nat → Int), ∃ A15' : (Nat → Int), ∃ A16' : (Nat → Int), ∃ A17' : (Nat → Int), ∃ A18' : (Nat → Int), ∃ p1' : HP, x1' = (x1 + 1) ∧ p1' = p2 ∧ (A11' = (updF A11 (Int.toNat ((kcode ((List.range 16).map (shiftF A4 (Int.toNat (x1 * 16)))) : Nat) : Int)) 1)) ∧ (A12' = (updF A12 (Int.toNat ((kcode ((List.range 16).map (shiftF A4 (Int.toNat (x1 * 16)))) : Nat) : Int)) x3)) ∧ (A13' = (updF A13 (Int.toNat ((kcode ((List.range 16).map (shiftF A4 (Int.toNat (x1 * 16)))) : Nat) : Int)) x4)) ∧ (A14' = A14) ∧ (A15' = A15) ∧ (A16' = (updF A16 (Int.toNat ((kcode ((List.range 16).map (shiftF A4 (Int.toNat (x1 * 16)))) : Nat) : Int)) 1)) ∧ (A17' = (updF A17 (Int.toNat ((kcode ((List.range 16).map (shiftF A4 (Int.toNat (x1 * 16)))) : Nat) : Int)) (A1 (Int.toNat x1)))) ∧ (A18' = (updF A18 (Int.toNat ((kcode ((List.range 16).map (shiftF A4 (Int.toNat (x1 * 16)))) : Nat) : Int)) (A2 (Int.toNat x1)))) ∧ I0x2 ⟨[], [], [x1'], [A11', A12', A13', A14', A15', A16', A17', A18'], [], [p1'], []⟩ ∧ m0x2 ⟨[], [], [x1'], [A11', A12', A13', A14', A15', A16', A17', A18'], [], [p1'], []⟩ < m0x2 ⟨[], [], [x1], [A11, A12, A13, A14, A15, A16, A17, A18], [], [p1], []⟩)))) (
              Fork ((A0 (Int.toNat x1)) = 4) (
                ∀ b9 : Nat, Fork (((((A14 (Int.toNat ((kcode ((List.range 16).map (shiftF A4 (Int.toNat (x1 * 16)))) : Nat) : Int))) ≠ 0) ∧ (¬ (∀ j, j < 32 → (shiftF A15 (Int.toNat (((kcode ((List.range 16).map (shiftF A4 (Int.toNat (x1 * 16)))) : Nat) : Int) * 32))) j = (shiftF A8 (Int.toNat (x1 * 32))) j))) ∨ (true = true)) ∨ ((¬ (((A1 (Int.toNat x1)) = x3) ∧ ((A2 (Int.toNat x1)) = x4))) ∧ (false = true))) (
                  Post (.bool false) []) (
                  Need ((-9223372036854775808) ≤ (x1 + 1)) (
                  Need ((x1 + 1) ≤ 9223372036854775807) (
                  ∃ x1' : Int, ∃ A11' : (Nat → Int), ∃ A12' : (Nat → Int), ∃ A13' : (Nat → Int), ∃ A14' : (Nat → Int), ∃ A15' : (Nat → Int), ∃ A16' : (Nat → Int), ∃ A17' : (Nat → Int), ∃ A18' : (Nat → Int), ∃ p1' : HP, x1' = (x1 + 1) ∧ p1' = p2 ∧ (A11' = A11) ∧ (A12' = A12) ∧ (A13' = A13) ∧ (A14' = (updF A14 (Int.toNat ((kcode ((List.range 16).map (shiftF A4 (Int.toNat (x1 * 16)))) : Nat) : Int)) 1)) ∧ (A15' = (splF A15 (Int.toNat (((kcode ((List.range 16).map (shiftF A4 (Int.toNat (x1 * 16)))) : Nat) : Int) * 32)) 32 (shiftF A8 (Int.toNat (x1 * 32))))) ∧ (A16' = (updF A16 (Int.toNat ((kcode ((List.range 16).map (shiftF A4 (Int.toNat (x1 * 16)))) : Nat) : Int)) 1)) ∧ (A17' = (updF A17 (Int.toNat ((kcode ((List.range 16).map (shiftF A4 (Int.toNat (x1 * 16)))) : Nat) : Int)) (A1 (Int.toNat x1)))) ∧ (A18' = (updF A18 (Int.toNat ((kcode ((List.range 16).map (shiftF A4 (Int.toNat (x1 * 16)))) : Nat) : Int)) (A2 (Int.toNat x1)))) ∧ I0x2 ⟨[], [], [x1'], [A11', A12', A13', A14', A15', A16', A17', A18'], [], [p1'], []⟩ ∧ m0x2 ⟨[], [], [x1'], [A11', A12', A13', A14', A15', A16', A17', A18'], [], [p1'], []⟩ < m0x2 ⟨[], [], [x1], [A11, A12, A13, A14, A15, A16, A17, A18], [], [p1], []⟩)))) (
                Need ((-9223372036854775808) ≤ (x1 + 1)) (
                Need ((x1 + 1) ≤ 9223372036854775807) (
                ∃ x1' : Int, ∃ A11' : (Nat → Int), ∃ A12' : (Nat → Int), ∃ A13' : (Nat → Int), ∃ A14' : (Nat → Int), ∃ A15' : (Nat → Int), ∃ A16' : (Nat → Int), ∃ A17' : (Nat → Int), ∃ A18' : (Nat → Int), ∃ p1' : HP, x1' = (x1 + 1) ∧ p1' = p2 ∧ (A11' = A11) ∧ (A12' = A12) ∧ (A13' = A13) ∧ (A14' = A14) ∧ (A15' = A15) ∧ (A16' = (updF A16 (Int.toNat ((kcode ((List.range 16).map (shiftF A4 (Int.toNat (x1 * 16)))) : Nat) : Int)) 1)) ∧ (A17' = (updF A17 (Int.toNat ((kcode ((List.range 16).map (shiftF A4 (Int.toNat (x1 * 16)))) : Nat) : Int)) (A1 (Int.toNat x1)))) ∧ (A18' = (updF A18 (Int.toNat ((kcode ((List.range 16).map (shiftF A4 (Int.toNat (x1 * 16)))) : Nat) : Int)) (A2 (Int.toNat x1)))) ∧ I0x2 ⟨[], [], [x1'], [A11', A12', A13', A14', A15', A16', A17', A18'], [], [p1'], []⟩ ∧ m0x2 ⟨[], [], [x1'], [A11', A12', A13', A14', A15', A16', A17', A18'], [], [p1'], []⟩ < m0x2 ⟨[], [], [x1], [A11, A12, A13, A14, A15, A16, A17, A18], [], [p1], []⟩)))))) (
          ∃ post, Meets P 37 [.pointer (some ⟨b2, 0, none⟩), .agg (List.append (segCells .u8 16 (shiftF A4 (Int.toNat (x1 * 16)))) ([])).toArray] [p2] post ∧
          ∀ x hs, post x hs → ∃ x3 : Int, ∃ x4 : Int, ∃ q0 : Bool, x = .tuple #[.agg #[.int .u8 x3, .int .u8 x4], .bool q0] ∧ hs = [p2] ∧
          ∀ b7 : Nat, ∀ b8 : Nat, Fork (((A11 (Int.toNat ((kcode ((List.range 16).map (shiftF A4 (Int.toNat (x1 * 16)))) : Nat) : Int))) ≠ 0) ∧ ((¬ (q0 = true)) ∨ (¬ (((A12 (Int.toNat ((kcode ((List.range 16).map (shiftF A4 (Int.toNat (x1 * 16)))) : Nat) : Int))) = x3) ∧ ((A13 (Int.toNat ((kcode ((List.range 16).map (shiftF A4 (Int.toNat (x1 * 16)))) : Nat) : Int))) = x4))))) (
            Post (.bool false) []) (
            Fork (q0 = true) (
              Fork ((A0 (Int.toNat x1)) = 4) (
                ∀ b9 : Nat, Fork ((((A14 (Int.toNat ((kcode ((List.range 16).map (shiftF A4 (Int.toNat (x1 * 16)))) : Nat) : Int))) ≠ 0) ∧ (¬ (∀ j, j < 32 → (shiftF A15 (Int.toNat (((kcode ((List.range 16).map (shiftF A4 (Int.toNat (x1 * 16)))) : Nat) : Int) * 32))) j = (shiftF A8 (Int.toNat (x1 * 32))) j))) ∨ ((¬ (((A1 (Int.toNat x1)) = x3) ∧ ((A2 (Int.toNat x1)) = x4))) ∧ (¬ (((A1 (Int.toNat x1)) = (A17 (Int.toNat ((kcode ((List.range 16).map (shiftF A4 (Int.toNat (x1 * 16)))) : Nat) : Int)))) ∧ ((A2 (Int.toNat x1)) = (A18 (Int.toNat ((kcode ((List.range 16).map (shiftF A4 (Int.toNat (x1 * 16)))) : Nat) : Int)))))))) (
                  Post (.bool false) []) (
                  Need ((-9223372036854775808) ≤ (x1 + 1)) (
                  Need ((x1 + 1) ≤ 9223372036854775807) (
                  ∃ x1' : Int, ∃ A11' : (Nat → Int), ∃ A12' : (Nat → Int), ∃ A13' : (Nat → Int), ∃ A14' : (Nat → Int), ∃ A15' : (Nat → Int), ∃ A16' : (Nat → Int), ∃ A17' : (Nat → Int), ∃ A18' : (Nat → Int), ∃ p1' : HP, x1' = (x1 + 1) ∧ p1' = p2 ∧ (A11' = (updF A11 (Int.toNat ((kcode ((List.range 16).map (shiftF A4 (Int.toNat (x1 * 16)))) : Nat) : Int)) 1)) ∧ (A12' = (updF A12 (Int.toNat ((kcode ((List.range 16).map (shiftF A4 (Int.toNat (x1 * 16)))) : Nat) : Int)) x3)) ∧ (A13' = (updF A13 (Int.toNat ((kcode ((List.range 16).map (shiftF A4 (Int.toNat (x1 * 16)))) : Nat) : Int)) x4)) ∧ (A14' = (updF A14 (Int.toNat ((kcode ((List.range 16).map (shiftF A4 (Int.toNat (x1 * 16)))) : Nat) : Int)) 1)) ∧ (A15' = (splF A15 (Int.toNat (((kcode ((List.range 16).map (shiftF A4 (Int.toNat (x1 * 16)))) : Nat) : Int) * 32)) 32 (shiftF A8 (Int.toNat (x1 * 32))))) ∧ (A16' = A16) ∧ (A17' = A17) ∧ (A18' = A18) ∧ I0x2 ⟨[], [], [x1'], [A11', A12', A13', A14', A15', A16', A17', A18'], [], [p1'], []⟩ ∧ m0x2 ⟨[], [], [x1'], [A11', A12', A13', A14', A15', A16', A17', A18'], [], [p1'], []⟩ < m0x2 ⟨[], [], [x1], [A11, A12, A13, A14, A15, A16, A17, A18], [], [p1], []⟩)))) (
                Need ((-9223372036854775808) ≤ (x1 + 1)) (
                Need ((x1 + 1) ≤ 9223372036854775807) (
                ∃ x1' : Int, ∃ A11' : (Nat → Int), ∃ A12' : (Nat → Int), ∃ A13' : (Nat → Int), ∃ A14' : (Nat → Int), ∃ A15' : (Nat → Int), ∃ A16' : (Nat → Int), ∃ A17' : (Nat → Int), ∃ A18' : (Nat → Int), ∃ p1' : HP, x1' = (x1 + 1) ∧ p1' = p2 ∧ (A11' = (updF A11 (Int.toNat ((kcode ((List.range 16).map (shiftF A4 (Int.toNat (x1 * 16)))) : Nat) : Int)) 1)) ∧ (A12' = (updF A12 (Int.toNat ((kcode ((List.range 16).map (shiftF A4 (Int.toNat (x1 * 16)))) : Nat) : Int)) x3)) ∧ (A13' = (updF A13 (Int.toNat ((kcode ((List.range 16).map (shiftF A4 (Int.toNat (x1 * 16)))) : Nat) : Int)) x4)) ∧ (A14' = A14) ∧ (A15' = A15) ∧ (A16' = A16) ∧ (A17' = A17) ∧ (A18' = A18) ∧ I0x2 ⟨[], [], [x1'], [A11', A12', A13', A14', A15', A16', A17', A18'], [], [p1'], []⟩ ∧ m0x2 ⟨[], [], [x1'], [A11', A12', A13', A14', A15', A16', A17', A18'], [], [p1'], []⟩ < m0x2 ⟨[], [], [x1], [A11, A12, A13, A14, A15, A16, A17, A18], [], [p1], []⟩)))) (
              Fork ((A0 (Int.toNat x1)) = 4) (
                ∀ b9 : Nat, Fork (((((A14 (Int.toNat ((kcode ((List.range 16).map (shiftF A4 (Int.toNat (x1 * 16)))) : Nat) : Int))) ≠ 0) ∧ (¬ (∀ j, j < 32 → (shiftF A15 (Int.toNat (((kcode ((List.range 16).map (shiftF A4 (Int.toNat (x1 * 16)))) : Nat) : Int) * 32))) j = (shiftF A8 (Int.toNat (x1 * 32))) j))) ∨ (true = true)) ∨ ((¬ (((A1 (Int.toNat x1)) = x3) ∧ ((A2 (Int.toNat x1)) = x4))) ∧ (¬ (((A1 (Int.toNat x1)) = (A17 (Int.toNat ((kcode ((List.range 16).map (shiftF A4 (Int.toNat (x1 * 16)))) : Nat) : Int)))) ∧ ((A2 (Int.toNat x1)) = (A18 (Int.toNat ((kcode ((List.range 16).map (shiftF A4 (Int.toNat (x1 * 16)))) : Nat) : Int)))))))) (
                  Post (.bool false) []) (
                  Need ((-9223372036854775808) ≤ (x1 + 1)) (
                  Need ((x1 + 1) ≤ 9223372036854775807) (
                  ∃ x1' : Int, ∃ A11' : (Nat → Int), ∃ A12' : (Nat → Int), ∃ A13' : (Nat → Int), ∃ A14' : (Nat → Int), ∃ A15' : (Nat → Int), ∃ A16' : (Nat → Int), ∃ A17' : (Nat → Int), ∃ A18' : (Nat → Int), ∃ p1' : HP, x1' = (x1 + 1) ∧ p1' = p2 ∧ (A11' = A11) ∧ (A12' = A12) ∧ (A13' = A13) ∧ (A14' = (updF A14 (Int.toNat ((kcode ((List.range 16).map (shiftF A4 (Int.toNat (x1 * 16)))) : Nat) : Int)) 1)) ∧ (A15' = (splF A15 (Int.toNat (((kcode ((List.range 16).map (shiftF A4 (Int.toNat (x1 * 16)))) : Nat) : Int) * 32)) 32 (shiftF A8 (Int.toNat (x1 * 32))))) ∧ (A16' = A16) ∧ (A17' = A17) ∧ (A18' = A18) ∧ I0x2 ⟨[], [], [x1'], [A11', A12', A13', A14', A15', A16', A17', A18'], [], [p1'], []⟩ ∧ m0x2 ⟨[], [], [x1'], [A11', A12', A13', A14', A15', A16', A17', A18'], [], [p1'], []⟩ < m0x2 ⟨[], [], [x1], [A11, A12, A13, A14, A15, A16, A17, A18], [], [p1], []⟩)))) (
                Need ((-9223372036854775808) ≤ (x1 + 1)) (
                Need ((x1 + 1) ≤ 9223372036854775807) (
                ∃ x1' : Int, ∃ A11' : (Nat → Int), ∃ A12' : (Nat → Int), ∃ A13' : (Nat → Int), ∃ A14' : (Nat → Int), ∃ A15' : (Nat → Int), ∃ A16' : (Nat → Int), ∃ A17' : (Nat → Int), ∃ A18' : (Nat → Int), ∃ p1' : HP, x1' = (x1 + 1) ∧ p1' = p2 ∧ (A11' = A11) ∧ (A12' = A12) ∧ (A13' = A13) ∧ (A14' = A14) ∧ (A15' = A15) ∧ (A16' = A16) ∧ (A17' = A17) ∧ (A18' = A18) ∧ I0x2 ⟨[], [], [x1'], [A11', A12', A13', A14', A15', A16', A17', A18'], [], [p1'], []⟩ ∧ m0x2 ⟨[], [], [x1'], [A11', A12', A13', A14', A15', A16', A17', A18'], [], [p1'], []⟩ < m0x2 ⟨[], [], [x1], [A11, A12, A13, A14, A15, A16, A17, A18], [], [p1], []⟩))))))))) (
      Need (0 ≤ x0) (
      ∃ Ig6 : Ext → Prop, (∀ (w : World) (Fs : List HP), Owns ([p1] ++ Fs) w → ∃ b6 : Nat, ∃ b7 : Nat, ∃ x2 : Int, ∃ A19 : (Nat → Int), ∃ A20 : (Nat → Int), ∃ A21 : (Nat → Int), ∃ A22 : (Nat → Int), ∃ A23 : (Nat → Int), ∃ p2 : HP, Owns ([p2, rowHP b2 true (List.append (segCells .u8 8 A19) ([.map (some b6), .map (some b7), .int .u64 x2])), mapHP b6 [.u8, .u8, .u8, .u8, .u8, .u8, .u8, .u8, .u8, .u8, .u8, .u8, .u8, .u8, .u8, .u8] true false ([.pointer none]) (fun i => !(A20 i == 0)) (mcols [colP 1 A21]), mapHP b7 [.u8, .u8] true false ([.pointer none]) (fun i => !(A22 i == 0)) (mcols [colP 1 A23])] ++ Fs) w ∧ Ig6 ⟨[b6, b7], [], [x2], [A19, A20, A21, A22, A23], [], [p2], []⟩) ∧
      (∀ b6 : Nat, ∀ b7 : Nat, ∀ x2 : Int, ∀ A19 : (Nat → Int), ∀ A20 : (Nat → Int), ∀ A21 : (Nat → Int), ∀ A22 : (Nat → Int), ∀ A23 : (Nat → Int), ∀ p2 : HP, Ig6 ⟨[b6, b7], [], [x2], [A19, A20, A21, A22, A23], [], [p2], []⟩ →
      ∀ b8 : Nat, ∃ (I0x6 : Ext → Prop) (m0x6 : Ext → Nat), (∃ b9 : Nat, ∃ x3 : Int, x3 = 0 ∧ b9 = b8 ∧ b9 = b8 ∧ I0x6 ⟨[b9], [], [x3], [], [], [], []⟩) ∧
      ∀ b9 : Nat, ∀ x3 : Int, I0x6 ⟨[b9], [], [x3], [], [], [], []⟩ →
        Fork (x3 < x0) (
          Need (0 ≤ x3) (
          ∀ _ : Nat, ∀ _ : Nat, ∀ _ : Nat, ∀ _ : Nat, ∀ _ : Nat, Fork ((A22 (Int.toNat ((kcode ((List.range 2).map (updF (updF (fun _ => 0) 0 (A1 (Int.toNat x3))) 1 (A2 (Int.toNat x3)))) : Nat) : Int))) ≠ 0) (
            ∃ Ig12 : Ext → Prop, (∀ (w : World) (Fs : List HP), Owns ([p2, mapHP b7 [.u8, .u8] true false ([.pointer none]) (fun i => !(A22 i == 0)) (mcols [colP 1 A23])] ++ Fs) w → ∃ b15 : Nat, ∃ b16 : Nat, ∃ v1 : V1, ∃ x4 : Int, ∃ x5 : Int, ∃ x6 : Int, ∃ x7 : Int, ∃ x8 : Int, ∃ x9 : Int, ∃ x10 : Int, ∃ x11 : Int, ∃ A24 : (Nat → Int), ∃ A25 : (Nat → Int), ∃ A26 : (Nat → Int), ∃ A27 : (Nat → Int), ∃ A28 : (Nat → Int), ∃ A29 : (Nat → Int), ∃ A30 : (Nat → Int), ∃ A31 : (Nat → Int), ∃ A32 : (Nat → Int), ∃ p3 : HP, Owns ([p3, mapHP b7 [.u8, .u8] true false ([.pointer none]) (fun i => !((updF A22 (Int.toNat ((kcode ((List.range 2).map (updF (updF (fun _ => 0) 0 (A1 (Int.toNat x3))) 1 (A2 (Int.toNat x3)))) : Nat) : Int)) 1) i == 0)) (mcols [colP 1 (updF A23 (Int.toNat ((kcode ((List.range 2).map (updF (updF (fun _ => 0) 0 (A1 (Int.toNat x3))) 1 (A2 (Int.toNat x3)))) : Nat) : Int)) ((b15 : Nat) + 1 : Int))]), rowHP b15 true (.int .u8 x4 :: (List.append (segCells .u8 16 A24) ([.bool (!(x5 == 0)), .int .u8 x6, .int .u8 x7, .int .u8 x8, .int .u64 x9, .int .u64 x10, .map (some b16), v1.v]))), mapHP b16 [.u8, .u8, .u8, .u8, .u8, .u8, .u8, .u8, .u8, .u8, .u8, .u8, .u8, .u8, .u8, .u8] true true ([]) (fun i => !(A25 i == 0)) (mcols []), sliHP true 85 22 v1.v (Int.toNat x11) (tabL (Int.toNat x11) [colI .u8 16 A26, colI .u8 1 A27, colB 1 A28, colI .u8 1 A29, colI .u64 1 A30, colI .u64 1 A31, colI .u64 1 A32])] ++ Fs) w ∧ Ig12 ⟨[b15, b16], [v1], [x4, x5, x6, x7, x8, x9, x10, x11], [A24, A25, A26, A27, A28, A29, A30, A31, A32], [], [p3], []⟩) ∧
            (∀ b15 : Nat, ∀ b16 : Nat, ∀ v1 : V1, ∀ x4 : Int, ∀ x5 : Int, ∀ x6 : Int, ∀ x7 : Int, ∀ x8 : Int, ∀ x9 : Int, ∀ x10 : Int, ∀ x11 : Int, ∀ A24 : (Nat → Int), ∀ A25 : (Nat → Int), ∀ A26 : (Nat → Int), ∀ A27 : (Nat → Int), ∀ A28 : (Nat → Int), ∀ A29 : (Nat → Int), ∀ A30 : (Nat → Int), ∀ A31 : (Nat → Int), ∀ A32 : (Nat → Int), ∀ p3 : HP, Ig12 ⟨[b15, b16], [v1], [x4, x5, x6, x7, x8, x9, x10, x11], [A24, A25, A26, A27, A28, A29, A30, A31, A32], [], [p3], []⟩ →
            ∀ (_ _ : Nat) (_ : Loop), Need (0 ≤ x11) (
            ∃ (I1x12 : Ext → Prop) (m1x12 : Ext → Nat), (∃ x12 : Int, ∃ A33 : (Nat → Int), x12 = 0 ∧ (A33 = (fun _ => 0)) ∧ I1x12 ⟨[], [], [x12], [A33], [], [], []⟩) ∧
            ∀ x12 : Int, ∀ A33 : (Nat → Int), I1x12 ⟨[], [], [x12], [A33], [], [], []⟩ →
              Fork (x12 < x11) (
                Need (0 ≤ x12) (
                ∀ b19 : Nat, ∀ _ : Nat, ∀ _ : Nat, Fork ((((A33 (Int.toNat ((kcode ((List.range 16).map (shiftF A26 (Int.toNat (x12 * 16)))) : Nat) : Int))) ≠ 0) ∨ ((A32 (Int.toNat x12)) < (A30 (Int.toNat x12)))) ∨ ((¬ ((A31 (Int.toNat x12)) = 0)) ∧ (((A31 (Int.toNat x12)) < (A30 (Int.toNat x12))) ∨ ((A32 (Int.toNat x12)) < (A31 (Int.toNat x12)))))) (
                  Post (.bool false) []) (
                  Need ((-9223372036854775808) ≤ (x12 + 1)) (
                  Need ((x12 + 1) ≤ 9223372036854775807) (
                  ∃ x12' : Int, ∃ A33' : (Nat → Int), x12' = (x12 + 1) ∧ (A33' = (updF A33 (Int.toNat ((kcode ((List.range 16).map (shiftF A26 (Int.toNat (x12 * 16)))) : Nat) : Int)) 1)) ∧ I1x12 ⟨[], [], [x12'], [A33'], [], [], []⟩ ∧ m1x12 ⟨[], [], [x12'], [A33'], [], [], []⟩ < m1x12 ⟨[], [], [x12], [A33], [], [], []⟩))))) (
                Need ((-9223372036854775808) ≤ (x3 + 1)) (
                Need ((x3 + 1) ≤ 9223372036854775807) (
                ∃ Ig16 : Ext → Prop, (∀ (w : World) (Fs : List HP), Owns ([p3, mapHP b7 [.u8, .u8] true false ([.pointer none]) (fun i => !((updF A22 (Int.toNat ((kcode ((List.range 2).map (updF (updF (fun _ => 0) 0 (A1 (Int.toNat x3))) 1 (A2 (Int.toNat x3)))) : Nat) : Int)) 1) i == 0)) (mcols [colP 1 (updF A23 (Int.toNat ((kcode ((List.range 2).map (updF (updF (fun _ => 0) 0 (A1 (Int.toNat x3))) 1 (A2 (Int.toNat x3)))) : Nat) : Int)) ((b15 : Nat) + 1 : Int))]), rowHP b15 true (.int .u8 x4 :: (List.append (segCells .u8 16 A24) ([.bool (!(x5 == 0)), .int .u8 x6, .int .u8 x7, .int .u8 x8, .int .u64 x9, .int .u64 x10, .map (some b16), v1.v]))), mapHP b16 [.u8, .u8, .u8, .u8, .u8, .u8, .u8, .u8, .u8, .u8, .u8, .u8, .u8, .u8, .u8, .u8] true true ([]) (fun i => !(A25 i == 0)) (mcols []), sliHP true 85 22 v1.v (Int.toNat x11) (tabL (Int.toNat x11) [colI .u8 16 A26, colI .u8 1 A27, colB 1 A28, colI .u8 1 A29, colI .u64 1 A30, colI .u64 1 A31, colI .u64 1 A32])] ++ Fs) w → Owns ([p2, mapHP b7 [.u8, .u8] true false ([.pointer none]) (fun i => !(A22 i == 0)) (mcols [colP 1 A23])] ++ Fs) w ∧ Ig16 ⟨[], [], [], [], [], [], []⟩) ∧
                (Ig16 ⟨[], [], [], [], [], [], []⟩ →
                ∀ b19 : Nat, ∃ b9' : Nat, ∃ x3' : Int, x3' = (x3 + 1) ∧ b9' = b19 ∧ b9' = b19 ∧ I0x6 ⟨[b9'], [], [x3'], [], [], [], []⟩ ∧ m0x6 ⟨[b9'], [], [x3'], [], [], [], []⟩ < m0x6 ⟨[b9], [], [x3], [], [], [], []⟩))))))) (
            ∃ Ig12 : Ext → Prop, (∀ (w : World) (Fs : List HP), Owns ([mapHP b7 [.u8, .u8] true false ([.pointer none]) (fun i => !(A22 i == 0)) (mcols [colP 1 A23])] ++ Fs) w → Owns ([mapHP b7 [.u8, .u8] true false ([.pointer none]) (fun i => !((updF A22 (Int.toNat ((kcode ((List.range 2).map (updF (updF (fun _ => 0) 0 (A1 (Int.toNat x3))) 1 (A2 (Int.toNat x3)))) : Nat) : Int)) 0) i == 0)) (mcols [colP 1 (updF A23 (Int.toNat ((kcode ((List.range 2).map (updF (updF (fun _ => 0) 0 (A1 (Int.toNat x3))) 1 (A2 (Int.toNat x3)))) : Nat) : Int)) 0)])] ++ Fs) w ∧ Ig12 ⟨[], [], [], [], [], [], []⟩) ∧
            (Ig12 ⟨[], [], [], [], [], [], []⟩ →
            ∀ (_ _ : Nat) (_ : Loop), Need ((-9223372036854775808) ≤ (x3 + 1)) (
            Need ((x3 + 1) ≤ 9223372036854775807) (
            ∃ Ig12 : Ext → Prop, (∀ (w : World) (Fs : List HP), Owns ([mapHP b7 [.u8, .u8] true false ([.pointer none]) (fun i => !((updF A22 (Int.toNat ((kcode ((List.range 2).map (updF (updF (fun _ => 0) 0 (A1 (Int.toNat x3))) 1 (A2 (Int.toNat x3)))) : Nat) : Int)) 0) i == 0)) (mcols [colP 1 (updF A23 (Int.toNat ((kcode ((List.range 2).map (updF (updF (fun _ => 0) 0 (A1 (Int.toNat x3))) 1 (A2 (Int.toNat x3)))) : Nat) : Int)) 0)])] ++ Fs) w → Owns ([mapHP b7 [.u8, .u8] true false ([.pointer none]) (fun i => !(A22 i == 0)) (mcols [colP 1 A23])] ++ Fs) w ∧ Ig12 ⟨[], [], [], [], [], [], []⟩) ∧
            (Ig12 ⟨[], [], [], [], [], [], []⟩ →
            ∀ b17 : Nat, ∃ b9' : Nat, ∃ x3' : Int, x3' = (x3 + 1) ∧ b9' = b17 ∧ b9' = b17 ∧ I0x6 ⟨[b9'], [], [x3'], [], [], [], []⟩ ∧ m0x6 ⟨[b9'], [], [x3'], [], [], [], []⟩ < m0x6 ⟨[b9], [], [x3], [], [], [], []⟩))))))) (
          Post (.bool true) []))))))
theorem vc_law (P : Program) (Post : Value → List HP → Prop) (x0 : Int) (A0 : Nat → Int) (A1 : Nat → Int) (A2 : Nat → Int) (A3 : Nat → Int) (A4 : Nat → Int) (A5 : Nat → Int) (A6 : Nat → Int) (A7 : Nat → Int) (A8 : Nat → Int) (A9 : Nat → Int) (A10 : Nat → Int) (v0 : V1) (L : Nat → LC) : VC P (fun v _ => Post v []) fm_law { iv := [x0], av := [A0, A1, A2, A3, A4, A5, A6, A7, A8, A9, A10], bo := [], bv := [], vv := [v0] } L = st_law P Post x0 A0 A1 A2 A3 A4 A5 A6 A7 A8 A9 A10 v0 := by kernel_rfl
theorem run_law : runF cx 7 ([Go.RX.SV.agg [Go.RX.SV.seg (Go.IntKind.u8) 8 (Go.RX.E.avar 10)], Go.RX.SV.vv 0]) ([Go.RX.Ck.sli false 0 76 56 (Go.RX.E.var 0) [{ ck := Go.RX.CK.int (Go.IntKind.u8), w := 1, a := Go.RX.E.avar 0 }, { ck := Go.RX.CK.int (Go.IntKind.u8), w := 1, a := Go.RX.E.avar 1 }, { ck := Go.RX.CK.int (Go.IntKind.u8), w := 1, a := Go.RX.E.avar 2 }, { ck := Go.RX.CK.int (Go.IntKind.u64), w := 1, a := Go.RX.E.avar 3 }, { ck := Go.RX.CK.int (Go.IntKind.u8), w := 16, a := Go.RX.E.avar 4 }, { ck := Go.RX.CK.int (Go.IntKind.u8), w := 1, a := Go.RX.E.avar 5 }, { ck := Go.RX.CK.int (Go.IntKind.u8), w := 1, a := Go.RX.E.avar 6 }, { ck := Go.RX.CK.int (Go.IntKind.u8), w := 1, a := Go.RX.E.avar 7 }, { ck := Go.RX.CK.int (Go.IntKind.u8), w := 32, a := Go.RX.E.avar 8 }, { ck := Go.RX.CK.int (Go.IntKind.u8), w := 1, a := Go.RX.E.avar 9 }]]) ({ b := 0, v := 1, i := 1, a := 11, bo := 0, p := 0, r := 0 }) Try.f7 = fm_law := rfl
end Go.RX.Sl

namespace Go.RX.Sn
open Go.RX Go.Proofs
set_option maxRecDepth 100000
noncomputable def fm_new : F := runF cx 35 ([Go.RX.SV.agg [Go.RX.SV.seg (Go.IntKind.u8) 8 (Go.RX.E.avar 0)]]) ([]) ({ b := 0, v := 0, i := 0, a := 1, bo := 0, p := 0, r := 0 }) Try.f35
def st_new (_ : Program) (Post : Value → List HP → Prop) (A0 : Nat → Int) : Prop :=
∀ b0 : Nat, ∀ b1 : Nat, ∀ b2 : Nat, ∀ b3 : Nat, ∃ Ig0 : Ext → Prop, (∀ (w : World) (Fs : List HP), Owns ([] ++ Fs) w → ∃ p0 : HP, Owns ([p0] ++ Fs) w ∧ Ig0 ⟨[], [], [], [], [], [p0], []⟩) ∧
(∀ p0 : HP, Ig0 ⟨[], [], [], [], [], [p0], []⟩ →
∃ (I0x0 : Ext → Prop) (m0x0 : Ext → Nat), (∃ x0 : Int, ∃ A1 : (Nat → Int), ∃ A2 : (Nat → Int), ∃ p1 : HP, x0 = 0 ∧ (A1 = (fun _ => 0)) ∧ (A2 = (fun _ => 0)) ∧ p1 = p0 ∧ I0x0 ⟨[], [], [x0], [A1, A2], [], [p1], []⟩) ∧
∀ x0 : Int, ∀ A1 : (Nat → Int), ∀ A2 : (Nat → Int), ∀ p1 : HP, I0x0 ⟨[], [], [x0], [A1, A2], [], [p1], []⟩ →
  Fork (x0 < 8) (
    Need (0 ≤ x0) (
    ∃ (I1x4 : Ext → Prop) (m1x4 : Ext → Nat), (∃ x1 : Int, ∃ A3 : (Nat → Int), ∃ A4 : (Nat → Int), ∃ p2 : HP, x1 = 0 ∧ (A3 = A1) ∧ (A4 = A2) ∧ p2 = p1 ∧ I1x4 ⟨[], [], [x1], [A3, A4], [], [p2], []⟩) ∧
    ∀ x1 : Int, ∀ A3 : (Nat → Int), ∀ A4 : (Nat → Int), ∀ p2 : HP, I1x4 ⟨[], [], [x1], [A3, A4], [], [p2], []⟩ →
      Fork ((x1 < (A0 (Int.toNat x0))) ∧ ((A0 (Int.toNat x0)) ≤ 4)) (
        ∀ b4 : Nat, ∀ b5 : Nat, ∃ Ig8 : Ext → Prop, (∀ (w : World) (Fs : List HP), Owns ([p2, rowHP b5 true (.int .u8 0 :: (List.append (segCells .u8 16 (fun _ => 0)) ([.bool false, .int .u8 0, .int .u8 0, .int .u8 0, .int .u64 0, .int .u64 0, .map (some b4), .slice none 0 0]))), mapHP b4 [.u8, .u8, .u8, .u8, .u8, .u8, .u8, .u8, .u8, .u8, .u8, .u8, .u8, .u8, .u8, .u8] true true ([]) (fun i => !((fun _ => 0) i == 0)) (mcols [])] ++ Fs) w → ∃ p3 : HP, Owns ([p3] ++ Fs) w ∧ Ig8 ⟨[], [], [], [], [], [p3], []⟩) ∧
        (∀ p3 : HP, Ig8 ⟨[], [], [], [], [], [p3], []⟩ →
        ∃ x1' : Int, ∃ A3' : (Nat → Int), ∃ A4' : (Nat → Int), ∃ p2' : HP, x1' = (IntKind.wrap .u8 (x1 + 1)) ∧ (A3' = (updF A3 (Int.toNat ((kcode ((List.range 2).map (updF (updF (fun _ => 0) 0 (IntKind.wrap .u8 x0)) 1 x1)) : Nat) : Int)) 1)) ∧ (A4' = (updF A4 (Int.toNat ((kcode ((List.range 2).map (updF (updF (fun _ => 0) 0 (IntKind.wrap .u8 x0)) 1 x1)) : Nat) : Int)) ((b5 : Nat) + 1 : Int))) ∧ p2' = p3 ∧ I1x4 ⟨[], [], [x1'], [A3', A4'], [], [p2'], []⟩ ∧ m1x4 ⟨[], [], [x1'], [A3', A4'], [], [p2'], []⟩ < m1x4 ⟨[], [], [x1], [A3, A4], [], [p2], []⟩)) (
        Need ((-9223372036854775808) ≤ (x0 + 1)) (
        Need ((x0 + 1) ≤ 9223372036854775807) (
        ∃ x0' : Int, ∃ A1' : (Nat → Int), ∃ A2' : (Nat → Int), ∃ p1' : HP, x0' = (x0 + 1) ∧ (A1' = A3) ∧ (A2' = A4) ∧ p1' = p2 ∧ I0x0 ⟨[], [], [x0'], [A1', A2'], [], [p1'], []⟩ ∧ m0x0 ⟨[], [], [x0'], [A1', A2'], [], [p1'], []⟩ < m0x0 ⟨[], [], [x0], [A1, A2], [], [p1], []⟩))))) (
    Post (.pointer (some ⟨b3, 0, none⟩)) [rowHP b0 true (List.append (segCells .u8 8 A0) ([])), mapHP b1 [.u8, .u8, .u8, .u8, .u8, .u8, .u8, .u8, .u8, .u8, .u8, .u8, .u8, .u8, .u8, .u8] true false ([.pointer none]) (fun i => !((fun _ => 0) i == 0)) (mcols [colP 1 (fun _ => 0)]), mapHP b2 [.u8, .u8] true false ([.pointer none]) (fun i => !(A1 i == 0)) (mcols [colP 1 A2]), rowHP b3 true (List.append (segCells .u8 8 A0) ([.map (some b1), .map (some b2), .int .u64 0])), p1]))
theorem vc_new (P : Program) (Post : Value → List HP → Prop) (A0 : Nat → Int) (L : Nat → LC) : VC P Post fm_new { iv := [], av := [A0], bo := [], bv := [], vv := [] } L = st_new P Post A0 := by kernel_rfl
theorem run_new : runF cx 35 ([Go.RX.SV.agg [Go.RX.SV.seg (Go.IntKind.u8) 8 (Go.RX.E.avar 0)]]) ([]) ({ b := 0, v := 0, i := 0, a := 1, bo := 0, p := 0, r := 0 }) Try.f35 = fm_new := rfl
noncomputable def fm_ans0 : F := runF cx 37 ([Go.RX.SV.ptr 0 0, Go.RX.SV.agg [Go.RX.SV.seg (Go.IntKind.u8) 16 (Go.RX.E.avar 0)]]) ([Go.RX.Ck.row 0 true [Go.RX.SV.seg (Go.IntKind.u8) 8 (Go.RX.E.avar 2), Go.RX.SV.mp 1, Go.RX.SV.mp 2, Go.RX.SV.int (Go.IntKind.u64) (Go.RX.E.var 8)], Go.RX.Ck.map 1 [Go.IntKind.u8, Go.IntKind.u8, Go.IntKind.u8, Go.IntKind.u8, Go.IntKind.u8, Go.IntKind.u8, Go.IntKind.u8, Go.IntKind.u8, Go.IntKind.u8, Go.IntKind.u8, Go.IntKind.u8, Go.IntKind.u8, Go.IntKind.u8, Go.IntKind.u8, Go.IntKind.u8, Go.IntKind.u8] true false [Go.RX.SV.nilp] (Go.RX.E.upd (Go.RX.E.avar 15) (Go.RX.E.kc 16 (Go.RX.E.avar 0)) (Go.RX.E.lit 0)) [{ ck := Go.RX.CK.ptr, w := 1, a := Go.RX.E.upd (Go.RX.E.avar 16) (Go.RX.E.kc 16 (Go.RX.E.avar 0)) (Go.RX.E.lit 0) }]]) ({ b := 6, v := 2, i := 23, a := 19, bo := 4, p := 0, r := 0 }) Try.f37
def st_ans0 (_ : Program) (Post : Value → List HP → Prop) (_ : Int) (_ : Int) (_ : Int) (_ : Int) (_ : Int) (_ : Int) (_ : Int) (_ : Int) (x8 : Int) (_ : Int) (_ : Int) (_ : Int) (_ : Int) (_ : Int) (_ : Int) (_ : Int) (_ : Int) (_ : Int) (_ : Int) (_ : Int) (_ : Int) (_ : Int) (_ : Int) (A0 : Nat → Int) (_ : Nat → Int) (A2 : Nat → Int) (_ : Nat → Int) (_ : Nat → Int) (_ : Nat → Int) (_ : Nat → Int) (_ : Nat → Int) (_ : Nat → Int) (_ : Nat → Int) (_ : Nat → Int) (_ : Nat → Int) (_ : Nat → Int) (_ : Nat → Int) (_ : Nat → Int) (A15 : Nat → Int) (A16 : Nat → Int) (_ : Nat → Int) (_ : Nat → Int) (_ : Bool) (_ : Bool) (_ : Bool) (_ : Bool) (_ : V1) (_ : V1) (b0 : Nat) (b1 : Nat) (b2 : Nat) (_ : Nat) (_ : Nat) (_ : Nat) : Prop :=
∀ b6 : Nat, ∀ b7 : Nat, Post (.tuple #[.agg #[.int .u8 0, .int .u8 0], .bool false]) [rowHP b0 true (List.append (segCells .u8 8 A2) ([.map (some b1), .map (some b2), .int .u64 x8])), mapHP b1 [.u8, .u8, .u8, .u8, .u8, .u8, .u8, .u8, .u8, .u8, .u8, .u8, .u8, .u8, .u8, .u8] true false ([.pointer none]) (fun i => !((updF A15 (Int.toNat ((kcode ((List.range 16).map A0) : Nat) : Int)) 0) i == 0)) (mcols [colP 1 (updF A16 (Int.toNat ((kcode ((List.range 16).map A0) : Nat) : Int)) 0)]), rowHP b6 true (List.append (segCells .u8 16 A0) ([])), rowHP b7 true ([.int .u8 0, .int .u8 0])]
theorem vc_ans0 (P : Program) (Post : Value → List HP → Prop) (x0 : Int) (x1 : Int) (x2 : Int) (x3 : Int) (x4 : Int) (x5 : Int) (x6 : Int) (x7 : Int) (x8 : Int) (x9 : Int) (x10 : Int) (x11 : Int) (x12 : Int) (x13 : Int) (x14 : Int) (x15 : Int) (x16 : Int) (x17 : Int) (x18 : Int) (x19 : Int) (x20 : Int) (x21 : Int) (x22 : Int) (A0 : Nat → Int) (A1 : Nat → Int) (A2 : Nat → Int) (A3 : Nat → Int) (A4 : Nat → Int) (A5 : Nat → Int) (A6 : Nat → Int) (A7 : Nat → Int) (A8 : Nat → Int) (A9 : Nat → Int) (A10 : Nat → Int) (A11 : Nat → Int) (A12 : Nat → Int) (A13 : Nat → Int) (A14 : Nat → Int) (A15 : Nat → Int) (A16 : Nat → Int) (A17 : Nat → Int) (A18 : Nat → Int) (q0 : Bool) (q1 : Bool) (q2 : Bool) (q3 : Bool) (v0 : V1) (v1 : V1) (b0 : Nat) (b1 : Nat) (b2 : Nat) (b3 : Nat) (b4 : Nat) (b5 : Nat) (L : Nat → LC) : VC P Post fm_ans0 { iv := [x0, x1, x2, x3, x4, x5, x6, x7, x8, x9, x10, x11, x12, x13, x14, x15, x16, x17, x18, x19, x20, x21, x22], av := [A0, A1, A2, A3, A4, A5, A6, A7, A8, A9, A10, A11, A12, A13, A14, A15, A16, A17, A18], bo := [q0, q1, q2, q3], bv := [b0, b1, b2, b3, b4, b5], vv := [v0, v1] } L = st_ans0 P Post x0 x1 x2 x3 x4 x5 x6 x7 x8 x9 x10 x11 x12 x13 x14 x15 x16 x17 x18 x19 x20 x21 x22 A0 A1 A2 A3 A4 A5 A6 A7 A8 A9 A10 A11 A12 A13 A14 A15 A16 A17 A18 q0 q1 q2 q3 v0 v1 b0 b1 b2 b3 b4 b5 := by kernel_rfl
theorem run_ans0 : runF cx 37 ([Go.RX.SV.ptr 0 0, Go.RX.SV.agg [Go.RX.SV.seg (Go.IntKind.u8) 16 (Go.RX.E.avar 0)]]) ([Go.RX.Ck.row 0 true [Go.RX.SV.seg (Go.IntKind.u8) 8 (Go.RX.E.avar 2), Go.RX.SV.mp 1, Go.RX.SV.mp 2, Go.RX.SV.int (Go.IntKind.u64) (Go.RX.E.var 8)], Go.RX.Ck.map 1 [Go.IntKind.u8, Go.IntKind.u8, Go.IntKind.u8, Go.IntKind.u8, Go.IntKind.u8, Go.IntKind.u8, Go.IntKind.u8, Go.IntKind.u8, Go.IntKind.u8, Go.IntKind.u8, Go.IntKind.u8, Go.IntKind.u8, Go.IntKind.u8, Go.IntKind.u8, Go.IntKind.u8, Go.IntKind.u8] true false [Go.RX.SV.nilp] (Go.RX.E.upd (Go.RX.E.avar 15) (Go.RX.E.kc 16 (Go.RX.E.avar 0)) (Go.RX.E.lit 0)) [{ ck := Go.RX.CK.ptr, w := 1, a := Go.RX.E.upd (Go.RX.E.avar 16) (Go.RX.E.kc 16 (Go.RX.E.avar 0)) (Go.RX.E.lit 0) }]]) ({ b := 6, v := 2, i := 23, a := 19, bo := 4, p := 0, r := 0 }) Try.f37 = fm_ans0 := rfl
noncomputable def fm_ans1 : F := runF cx 37 ([Go.RX.SV.ptr 0 0, Go.RX.SV.agg [Go.RX.SV.seg (Go.IntKind.u8) 16 (Go.RX.E.avar 0)]]) ([Go.RX.Ck.row 0 true [Go.RX.SV.seg (Go.IntKind.u8) 8 (Go.RX.E.avar 2), Go.RX.SV.mp 1, Go.RX.SV.mp 2, Go.RX.SV.int (Go.IntKind.u64) (Go.RX.E.var 8)], Go.RX.Ck.map 1 [Go.IntKind.u8, Go.IntKind.u8, Go.IntKind.u8, Go.IntKind.u8, Go.IntKind.u8, Go.IntKind.u8, Go.IntKind.u8, Go.IntKind.u8, Go.IntKind.u8, Go.IntKind.u8, Go.IntKind.u8, Go.IntKind.u8, Go.IntKind.u8, Go.IntKind.u8, Go.IntKind.u8, Go.IntKind.u8] true false [Go.RX.SV.nilp] (Go.RX.E.upd (Go.RX.E.avar 15) (Go.RX.E.kc 16 (Go.RX.E.avar 0)) (Go.RX.E.lit 1)) [{ ck := Go.RX.CK.ptr, w := 1, a := Go.RX.E.upd (Go.RX.E.avar 16) (Go.RX.E.kc 16 (Go.RX.E.avar 0)) (Go.RX.E.blk 5) }], Go.RX.Ck.row 5 true [Go.RX.SV.int (Go.IntKind.u8) (Go.RX.E.var 16), Go.RX.SV.int (Go.IntKind.u8) (Go.RX.E.var 17), Go.RX.SV.int (Go.IntKind.u8) (Go.RX.E.var 18), Go.RX.SV.vv 1, Go.RX.SV.bool (Go.RX.BE.var 1), Go.RX.SV.bool (Go.RX.BE.var 2), Go.RX.SV.int (Go.IntKind.u8) (Go.RX.E.var 20), Go.RX.SV.int (Go.IntKind.u8) (Go.RX.E.var 21), Go.RX.SV.bool (Go.RX.BE.var 3), Go.RX.SV.seg (Go.IntKind.u8) 32 (Go.RX.E.avar 14)], Go.RX.Ck.sli true 1 30 2 (Go.RX.E.var 19) [{ ck := Go.RX.CK.int (Go.IntKind.u8), w := 1, a := Go.RX.E.avar 12 }, { ck := Go.RX.CK.int (Go.IntKind.u8), w := 1, a := Go.RX.E.avar 13 }]]) ({ b := 6, v := 2, i := 23, a := 19, bo := 4, p := 0, r := 0 }) Try.f37
def st_ans1 (_ : Program) (Post : Value → List HP → Prop) (_ : Int) (_ : Int) (_ : Int) (_ : Int) (_ : Int) (_ : Int) (_ : Int) (_ : Int) (x8 : Int) (_ : Int) (_ : Int) (_ : Int) (_ : Int) (_ : Int) (_ : Int) (_ : Int) (x16 : Int) (x17 : Int) (x18 : Int) (x19 : Int) (x20 : Int) (x21 : Int) (_ : Int) (A0 : Nat → Int) (_ : Nat → Int) (A2 : Nat → Int) (_ : Nat → Int) (_ : Nat → Int) (_ : Nat → Int) (_ : Nat → Int) (_ : Nat → Int) (_ : Nat → Int) (_ : Nat → Int) (_ : Nat → Int) (_ : Nat → Int) (A12 : Nat → Int) (A13 : Nat → Int) (A14 : Nat → Int) (A15 : Nat → Int) (A16 : Nat → Int) (_ : Nat → Int) (_ : Nat → Int) (_ : Bool) (q1 : Bool) (q2 : Bool) (q3 : Bool) (_ : V1) (v1 : V1) (b0 : Nat) (b1 : Nat) (b2 : Nat) (_ : Nat) (_ : Nat) (b5 : Nat) : Prop :=
∀ b6 : Nat, ∀ b7 : Nat, Post (.tuple #[.agg #[.int .u8 x20, .int .u8 x21], .bool q2]) [rowHP b0 true (List.append (segCells .u8 8 A2) ([.map (some b1), .map (some b2), .int .u64 x8])), mapHP b1 [.u8, .u8, .u8, .u8, .u8, .u8, .u8, .u8, .u8, .u8, .u8, .u8, .u8, .u8, .u8, .u8] true false ([.pointer none]) (fun i => !((updF A15 (Int.toNat ((kcode ((List.range 16).map A0) : Nat) : Int)) 1) i == 0)) (mcols [colP 1 (updF A16 (Int.toNat ((kcode ((List.range 16).map A0) : Nat) : Int)) ((b5 : Nat) + 1 : Int))]), rowHP b5 true (.int .u8 x16 :: (.int .u8 x17 :: (.int .u8 x18 :: (v1.v :: (.bool q1 :: (.bool q2 :: (.int .u8 x20 :: (.int .u8 x21 :: (.bool q3 :: (List.append (segCells .u8 32 A14) ([]))))))))))), sliHP true 30 2 v1.v (Int.toNat x19) (tabL (Int.toNat x19) [colI .u8 1 A12, colI .u8 1 A13]), rowHP b6 true (List.append (segCells .u8 16 A0) ([])), rowHP b7 true ([.int .u8 x20, .int .u8 x21])]
theorem vc_ans1 (P : Program) (Post : Value → List HP → Prop) (x0 : Int) (x1 : Int) (x2 : Int) (x3 : Int) (x4 : Int) (x5 : Int) (x6 : Int) (x7 : Int) (x8 : Int) (x9 : Int) (x10 : Int) (x11 : Int) (x12 : Int) (x13 : Int) (x14 : Int) (x15 : Int) (x16 : Int) (x17 : Int) (x18 : Int) (x19 : Int) (x20 : Int) (x21 : Int) (x22 : Int) (A0 : Nat → Int) (A1 : Nat → Int) (A2 : Nat → Int) (A3 : Nat → Int) (A4 : Nat → Int) (A5 : Nat → Int) (A6 : Nat → Int) (A7 : Nat → Int) (A8 : Nat → Int) (A9 : Nat → Int) (A10 : Nat → Int) (A11 : Nat → Int) (A12 : Nat → Int) (A13 : Nat → Int) (A14 : Nat → Int) (A15 : Nat → Int) (A16 : Nat → Int) (A17 : Nat → Int) (A18 : Nat → Int) (q0 : Bool) (q1 : Bool) (q2 : Bool) (q3 : Bool) (v0 : V1) (v1 : V1) (b0 : Nat) (b1 : Nat) (b2 : Nat) (b3 : Nat) (b4 : Nat) (b5 : Nat) (L : Nat → LC) : VC P Post fm_ans1 { iv := [x0, x1, x2, x3, x4, x5, x6, x7, x8, x9, x10, x11, x12, x13, x14, x15, x16, x17, x18, x19, x20, x21, x22], av := [A0, A1, A2, A3, A4, A5, A6, A7, A8, A9, A10, A11, A12, A13, A14, A15, A16, A17, A18], bo := [q0, q1, q2, q3], bv := [b0, b1, b2, b3, b4, b5], vv := [v0, v1] } L = st_ans1 P Post x0 x1 x2 x3 x4 x5 x6 x7 x8 x9 x10 x11 x12 x13 x14 x15 x16 x17 x18 x19 x20 x21 x22 A0 A1 A2 A3 A4 A5 A6 A7 A8 A9 A10 A11 A12 A13 A14 A15 A16 A17 A18 q0 q1 q2 q3 v0 v1 b0 b1 b2 b3 b4 b5 := by kernel_rfl
theorem run_ans1 : runF cx 37 ([Go.RX.SV.ptr 0 0, Go.RX.SV.agg [Go.RX.SV.seg (Go.IntKind.u8) 16 (Go.RX.E.avar 0)]]) ([Go.RX.Ck.row 0 true [Go.RX.SV.seg (Go.IntKind.u8) 8 (Go.RX.E.avar 2), Go.RX.SV.mp 1, Go.RX.SV.mp 2, Go.RX.SV.int (Go.IntKind.u64) (Go.RX.E.var 8)], Go.RX.Ck.map 1 [Go.IntKind.u8, Go.IntKind.u8, Go.IntKind.u8, Go.IntKind.u8, Go.IntKind.u8, Go.IntKind.u8, Go.IntKind.u8, Go.IntKind.u8, Go.IntKind.u8, Go.IntKind.u8, Go.IntKind.u8, Go.IntKind.u8, Go.IntKind.u8, Go.IntKind.u8, Go.IntKind.u8, Go.IntKind.u8] true false [Go.RX.SV.nilp] (Go.RX.E.upd (Go.RX.E.avar 15) (Go.RX.E.kc 16 (Go.RX.E.avar 0)) (Go.RX.E.lit 1)) [{ ck := Go.RX.CK.ptr, w := 1, a := Go.RX.E.upd (Go.RX.E.avar 16) (Go.RX.E.kc 16 (Go.RX.E.avar 0)) (Go.RX.E.blk 5) }], Go.RX.Ck.row 5 true [Go.RX.SV.int (Go.IntKind.u8) (Go.RX.E.var 16), Go.RX.SV.int (Go.IntKind.u8) (Go.RX.E.var 17), Go.RX.SV.int (Go.IntKind.u8) (Go.RX.E.var 18), Go.RX.SV.vv 1, Go.RX.SV.bool (Go.RX.BE.var 1), Go.RX.SV.bool (Go.RX.BE.var 2), Go.RX.SV.int (Go.IntKind.u8) (Go.RX.E.var 20), Go.RX.SV.int (Go.IntKind.u8) (Go.RX.E.var 21), Go.RX.SV.bool (Go.RX.BE.var 3), Go.RX.SV.seg (Go.IntKind.u8) 32 (Go.RX.E.avar 14)], Go.RX.Ck.sli true 1 30 2 (Go.RX.E.var 19) [{ ck := Go.RX.CK.int (Go.IntKind.u8), w := 1, a := Go.RX.E.avar 12 }, { ck := Go.RX.CK.int (Go.IntKind.u8), w := 1, a := Go.RX.E.avar 13 }]]) ({ b := 6, v := 2, i := 23, a := 19, bo := 4, p := 0, r := 0 }) Try.f37 = fm_ans1 := rfl
end Go.RX.Sn

namespace Go.RX.So
open Go.RX Go.Proofs

structure DE where
  k : Nat
  b : Nat
  h : Nat
  v : V1
  d : Dv
structure CE where
  k : Nat
  b : Nat
  v : V1
  c : Cl
def DE.hps (x : DE) : List HP := devHPs x.b x.h x.v x.d
def CE.hps (y : CE) : List HP := callHPs y.b y.v y.c
structure Sys where
  b : Nat
  mc : Nat
  ma : Nat
  s : Sy
  ds : List DE
  cs : List CE
def Sys.hps (σ : Sys) : List HP := sysHPs σ.b σ.mc σ.ma σ.s ++ (σ.ds.flatMap DE.hps ++ σ.cs.flatMap CE.hps)
/-- What the maps say is what is there. -/
structure Sys.Wf (σ : Sys) : Prop where
  d1 : ∀ x ∈ σ.ds, σ.s.hasD x.k = 1 ∧ σ.s.ptrD x.k = (x.b : Nat) + 1
  d0 : ∀ k, (∀ x ∈ σ.ds, x.k ≠ k) → σ.s.hasD k = 0 ∧ σ.s.ptrD k = 0
  c1 : ∀ y ∈ σ.cs, σ.s.hasC y.k = 1 ∧ σ.s.ptrC y.k = (y.b : Nat) + 1
  c0 : ∀ k, (∀ y ∈ σ.cs, y.k ≠ k) → σ.s.hasC k = 0 ∧ σ.s.ptrC k = 0
  nd : σ.ds.Pairwise fun x y => x.k ≠ y.k
  nc : σ.cs.Pairwise fun x y => x.k ≠ y.k

theorem sys_wr (σ : Sys) : ∀ h ∈ σ.hps, h.wr = true := by
  intro h hh
  simp only [Sys.hps, List.mem_append, List.mem_flatMap] at hh
  rcases hh with hh | ⟨x, _, hh⟩ | ⟨y, _, hh⟩
  · simp only [sysHPs, List.mem_cons, List.not_mem_nil, or_false] at hh
    rcases hh with rfl | rfl | rfl <;> rfl
  · simp only [DE.hps, devHPs, List.mem_cons, List.not_mem_nil, or_false] at hh
    rcases hh with rfl | rfl | rfl <;> rfl
  · simp only [CE.hps, callHPs, List.mem_cons, List.not_mem_nil, or_false] at hh
    rcases hh with rfl | rfl <;> rfl

/-- What a step makes of the system. -/
inductive Steps (σ : Sys) (e : Ev) : Sys → Prop where
  | new (l1 l2 : List DE) (x : DE) (d' : Dv) (bc : Nat) (v1 : V1) (hd : σ.ds = l1 ++ x :: l2) (hk : x.k = kcD e.da e.dd) (hc : ∀ y ∈ σ.cs, y.k ≠ kcI e.id) (hs : step0 e σ.s.dv σ.s.last x.d = some d') :
      Steps σ e { σ with s := { σ.s.setC e 1 ((bc : Nat) + 1) with last := e.at_ }, ds := l1 ++ { x with d := d' } :: l2, cs := ⟨kcI e.id, bc, v1, Cl.new e⟩ :: σ.cs }
  | old (l1 l2 : List DE) (x : DE) (m1 m2 : List CE) (y : CE) (d' : Dv) (c' : Cl) (w w1 : V1) (hd : σ.ds = l1 ++ x :: l2) (hk : x.k = kcD e.da e.dd) (hc : σ.cs = m1 ++ y :: m2) (hy : y.k = kcI e.id) (hs : step1 e σ.s.last x.d y.c = some (d', c')) :
      Steps σ e { σ with s := { σ.s with last := e.at_ }, ds := l1 ++ { x with v := w, d := d' } :: l2, cs := m1 ++ { y with v := w1, c := c' } :: m2 }
/-- When a step is refused. -/
inductive Refuses (σ : Sys) (e : Ev) : Prop where
  | device (h : ∀ x ∈ σ.ds, x.k ≠ kcD e.da e.dd)
  | new (x : DE) (hx : x ∈ σ.ds) (hk : x.k = kcD e.da e.dd) (hc : ∀ y ∈ σ.cs, y.k ≠ kcI e.id) (hs : step0 e σ.s.dv σ.s.last x.d = none)
  | old (x : DE) (hx : x ∈ σ.ds) (hk : x.k = kcD e.da e.dd) (y : CE) (hc : y ∈ σ.cs) (hy : y.k = kcI e.id) (hs : step1 e σ.s.last x.d y.c = none)

theorem hps_dev {b mc ma : Nat} {s : Sy} {l1 l2 : List DE} {x : DE} {cs : List CE} :
    (Sys.hps ⟨b, mc, ma, s, l1 ++ x :: l2, cs⟩).Perm ((sysHPs b mc ma s ++ x.hps) ++ (l1.flatMap DE.hps ++ l2.flatMap DE.hps ++ cs.flatMap CE.hps)) := by
  simp only [Sys.hps, List.flatMap_append, List.flatMap_cons, List.append_assoc]
  exact (List.perm_append_comm_assoc _ _ _).append_left _
theorem hps_both {b mc ma : Nat} {s : Sy} {l1 l2 : List DE} {x : DE} {m1 m2 : List CE} {y : CE} :
    (Sys.hps ⟨b, mc, ma, s, l1 ++ x :: l2, m1 ++ y :: m2⟩).Perm ((sysHPs b mc ma s ++ x.hps ++ y.hps) ++ (l1.flatMap DE.hps ++ l2.flatMap DE.hps ++ (m1.flatMap CE.hps ++ m2.flatMap CE.hps))) := by
  refine hps_dev.trans ?_
  simp only [List.flatMap_append, List.flatMap_cons, List.append_assoc]
  refine List.Perm.append_left _ (List.Perm.append_left _ ?_)
  have : (l1.flatMap DE.hps ++ (l2.flatMap DE.hps ++ (m1.flatMap CE.hps ++ (y.hps ++ m2.flatMap CE.hps)))) = (l1.flatMap DE.hps ++ l2.flatMap DE.hps ++ m1.flatMap CE.hps) ++ (y.hps ++ m2.flatMap CE.hps) := by simp only [List.append_assoc]
  rw [this]
  refine (List.perm_append_comm_assoc _ _ _).trans ?_
  simp only [List.append_assoc]
  exact List.Perm.refl _
theorem hps_new {b mc ma : Nat} {s : Sy} {l1 l2 : List DE} {x : DE} {cs : List CE} {y : CE} :
    (Sys.hps ⟨b, mc, ma, s, l1 ++ x :: l2, y :: cs⟩).Perm ((sysHPs b mc ma s ++ x.hps ++ y.hps) ++ (l1.flatMap DE.hps ++ l2.flatMap DE.hps ++ cs.flatMap CE.hps)) := by
  have := hps_both (b := b) (mc := mc) (ma := ma) (s := s) (l1 := l1) (l2 := l2) (x := x) (m1 := []) (m2 := cs) (y := y)
  simpa using this

theorem step_sys (σ : Sys) (wf : σ.Wf) (e : Ev) (hn : ∀ x ∈ σ.ds, 0 ≤ x.d.n ∧ x.d.n ≤ 1000000) (hc : ∀ y ∈ σ.cs, 0 ≤ y.c.n ∧ y.c.n ≤ 1000000) (ha : 0 ≤ e.acc) (hb : e.acc < 256) :
    Meets Try.prog 36 [.pointer (some ⟨σ.b, 0, none⟩), e.val] σ.hps
      (fun r hs => (r = .int .i64 6 ∧ hs = σ.hps ∧ Refuses σ e) ∨ (r = .int .i64 0 ∧ ∃ σ', Steps σ e σ' ∧ hs = σ'.hps)) := by
  obtain ⟨b, mc, ma, s, ds, cs⟩ := σ
  by_cases hx : ∃ x ∈ ds, x.k = kcD e.da e.dd
  · obtain ⟨x, hx, hk⟩ := hx
    have hxn := hn x hx
    obtain ⟨q1, q2⟩ := wf.d1 x hx
    simp only [hk] at q1 q2
    obtain ⟨l1, l2, hds⟩ := List.append_of_mem hx
    by_cases hy : ∃ y ∈ cs, y.k = kcI e.id
    · obtain ⟨y, hy, hyk⟩ := hy
      have hyn := hc y hy
      obtain ⟨q3, q4⟩ := wf.c1 y hy
      simp only [hyk] at q3 q4
      obtain ⟨m1, m2, hcs⟩ := List.append_of_mem hy
      subst hds
      subst hcs
      have h := (step1_meets b mc ma x.b x.h y.b x.v y.v s e x.d y.c q1 q2 q3 q4 hxn.1 hxn.2 hyn.1 hyn.2).frame (l1.flatMap DE.hps ++ l2.flatMap DE.hps ++ (m1.flatMap CE.hps ++ m2.flatMap CE.hps))
      refine (h.pre (Ent.perm hps_both)).post ?_
      rintro r hs ⟨hs0, rfl, (⟨rfl, q5, rfl⟩ | ⟨rfl, d', c', w, w1, q5, rfl⟩)⟩
      · exact ⟨_, Ent.perm hps_both.symm, .inl ⟨rfl, rfl, .old x hx hk y hy hyk q5⟩⟩
      · exact ⟨_, Ent.perm (hps_both (x := { x with v := w, d := d' }) (y := { y with v := w1, c := c' })).symm, .inr ⟨rfl, _, .old l1 l2 x m1 m2 y d' c' w w1 rfl hk rfl hyk q5, rfl⟩⟩
    · have hy' : ∀ y ∈ cs, y.k ≠ kcI e.id := fun y h1 h2 => hy ⟨y, h1, h2⟩
      obtain ⟨q3, q4⟩ := wf.c0 _ hy'
      subst hds
      have h := (step0_meets b mc ma x.b x.h x.v s e x.d q1 q2 q3 q4 ha hb).frame (l1.flatMap DE.hps ++ l2.flatMap DE.hps ++ cs.flatMap CE.hps)
      refine (h.pre (Ent.perm hps_dev)).post ?_
      rintro r hs ⟨hs0, rfl, (⟨rfl, q5, rfl⟩ | ⟨rfl, d', bc, v1, q5, rfl⟩)⟩
      · exact ⟨_, Ent.perm hps_dev.symm, .inl ⟨rfl, rfl, .new x hx hk hy' q5⟩⟩
      · exact ⟨_, Ent.perm (hps_new (x := { x with d := d' }) (y := ⟨kcI e.id, bc, v1, Cl.new e⟩)).symm, .inr ⟨rfl, _, .new l1 l2 x d' bc v1 rfl hk hy' q5, rfl⟩⟩
  · have hx' : ∀ x ∈ ds, x.k ≠ kcD e.da e.dd := fun x h1 h2 => hx ⟨x, h1, h2⟩
    obtain ⟨q1, q2⟩ := wf.d0 _ hx'
    have h := (stepN_meets b mc ma s e q1 q2).frame (ds.flatMap DE.hps ++ cs.flatMap CE.hps)
    refine h.post ?_
    rintro r hs ⟨hs0, rfl, rfl, rfl⟩
    exact ⟨_, Ent.refl _, .inl ⟨rfl, rfl, .device hx'⟩⟩
end Go.RX.So

namespace Go.RX.So
open Go.RX Go.Proofs
def ev0 (id : Nat → Int) : Ev := ⟨0, 0, 0, 0, id, 0, 0, 0, fun _ => 0, 0⟩
def idVal (id : Nat → Int) : Value := .agg (List.append (segCells .u8 16 id) ([])).toArray
def rowS (b mc ma : Nat) (s : Sy) : List HP := [rowHP b true (segCells .u8 8 s.dv ++ ([.map (some mc), .map (some ma), .int .u64 s.last])), mapHP mc K16 true false ([.pointer none]) (fun i => !(s.hasC i == 0)) (mcols [colP 1 s.ptrC])]

theorem ans0_meets (b mc ma : Nat) (s : Sy) (id : Nat → Int) (h3 : s.hasC (kcI id) = 0) (h4 : s.ptrC (kcI id) = 0) :
    Meets Try.prog 37 [.pointer (some ⟨b, 0, none⟩), idVal id] (rowS b mc ma s) (fun r hs => r = .tuple #[.agg #[.int .u8 0, .int .u8 0], .bool false] ∧ hs = rowS b mc ma s) := by
  have es : s.setC (ev0 id) 0 0 = s := Sy.setC_self h3 h4
  refine Meets.post (p := fun r hs => ∃ hs', Ent hs hs' ∧ r = .tuple #[.agg #[.int .u8 0, .int .u8 0], .bool false] ∧ hs' = rowS b mc ma s) ?_ fun v hs h => h
  have key := Meets.of_runE (C := Sn.cx) (args := [.ptr 0 0, Sn.idV]) (hp := Sn.ansHp0) (cnt := cnt1) (ρ := envS b mc ma 0 0 0 V1.nil V1.nil s (ev0 id) dv0 cl0) okT okFT okM Try.func37 (by constructor <;> rfl) Sn.run_ans0
    (Sn.vc_ans0 Try.prog (fun r hs => ∃ hs', Ent hs hs' ∧ r = .tuple #[.agg #[.int .u8 0, .int .u8 0], .bool false] ∧ hs' = rowS b mc ma (s.setC (ev0 id) 0 0)) _ _ _ _ _ _ _ _ _ _ _ _ _ _ _ _ _ _ _ _ _ _ _ _ _ _ _ _ _ _ _ _ _ _ _ _ _ _ _ _ _ _ _ _ _ _ _ _ _ _ _ _ _ _ _) (by
      unfold Sn.st_ans0
      intros
      exact ⟨_, Ent.sub (List.sublist_append_left (rowS b mc ma (s.setC (ev0 id) 0 0)) _), rfl, rfl⟩)
  rw [show Sn.ansHp0.map (Ck.den (envS b mc ma 0 0 0 V1.nil V1.nil s (ev0 id) dv0 cl0)) = rowS b mc ma (s.setC (ev0 id) 0 0) from rfl, es] at key
  exact key

theorem ans1_meets (b mc ma bc : Nat) (v1 : V1) (s : Sy) (c : Cl) (id : Nat → Int) (h3 : s.hasC (kcI id) = 1) (h4 : s.ptrC (kcI id) = (bc : Nat) + 1) :
    Meets Try.prog 37 [.pointer (some ⟨b, 0, none⟩), idVal id] (rowS b mc ma s ++ callHPs bc v1 c) (fun r hs => r = .tuple #[.agg #[.int .u8 c.aa, .int .u8 c.ad], .bool c.took] ∧ hs = rowS b mc ma s ++ callHPs bc v1 c) := by
  have es : s.setC (ev0 id) 1 ((bc : Nat) + 1) = s := Sy.setC_self h3 h4
  refine Meets.post (p := fun r hs => ∃ hs', Ent hs hs' ∧ r = .tuple #[.agg #[.int .u8 c.aa, .int .u8 c.ad], .bool c.took] ∧ hs' = rowS b mc ma s ++ callHPs bc v1 c) ?_ fun v hs h => h
  have key := Meets.of_runE (C := Sn.cx) (args := [.ptr 0 0, Sn.idV]) (hp := Sn.ansHp1) (cnt := cnt1) (ρ := envS b mc ma 0 0 bc V1.nil v1 s (ev0 id) dv0 c) okT okFT okM Try.func37 (by constructor <;> rfl) Sn.run_ans1
    (Sn.vc_ans1 Try.prog (fun r hs => ∃ hs', Ent hs hs' ∧ r = .tuple #[.agg #[.int .u8 c.aa, .int .u8 c.ad], .bool c.took] ∧ hs' = rowS b mc ma (s.setC (ev0 id) 1 ((bc : Nat) + 1)) ++ callHPs bc v1 c) _ _ _ _ _ _ _ _ _ _ _ _ _ _ _ _ _ _ _ _ _ _ _ _ _ _ _ _ _ _ _ _ _ _ _ _ _ _ _ _ _ _ _ _ _ _ _ _ _ _ _ _ _ _ _) (by
      unfold Sn.st_ans1
      intros
      exact ⟨_, Ent.sub (List.sublist_append_left (rowS b mc ma (s.setC (ev0 id) 1 ((bc : Nat) + 1)) ++ callHPs bc v1 c) _), rfl, rfl⟩)
  rw [show Sn.ansHp1.map (Ck.den (envS b mc ma 0 0 bc V1.nil v1 s (ev0 id) dv0 c)) = rowS b mc ma (s.setC (ev0 id) 1 ((bc : Nat) + 1)) ++ callHPs bc v1 c from rfl, es] at key
  exact key

theorem hps_call {b mc ma : Nat} {s : Sy} {ds : List DE} {m1 m2 : List CE} {y : CE} :
    (Sys.hps ⟨b, mc, ma, s, ds, m1 ++ y :: m2⟩).Perm ((rowS b mc ma s ++ y.hps) ++ ([mapHP ma [.u8, .u8] true false ([.pointer none]) (fun i => !(s.hasD i == 0)) (mcols [colP 1 s.ptrD])] ++ (ds.flatMap DE.hps ++ m1.flatMap CE.hps) ++ m2.flatMap CE.hps)) := by
  have : Sys.hps ⟨b, mc, ma, s, ds, m1 ++ y :: m2⟩ = rowS b mc ma s ++ (([mapHP ma [.u8, .u8] true false ([.pointer none]) (fun i => !(s.hasD i == 0)) (mcols [colP 1 s.ptrD])] ++ (ds.flatMap DE.hps ++ m1.flatMap CE.hps)) ++ (y.hps ++ m2.flatMap CE.hps)) := by
    simp only [Sys.hps, List.flatMap_append, List.flatMap_cons, List.append_assoc]
    rfl
  rw [this, List.append_assoc (rowS b mc ma s)]
  refine List.Perm.append_left _ ?_
  refine (List.perm_append_comm_assoc _ _ _).trans ?_
  exact List.Perm.refl _

/-- Who answered. -/
def Sys.ans (σ : Sys) (id : Nat → Int) (a d : Int) (q : Bool) : Prop :=
  ((∀ y ∈ σ.cs, y.k ≠ kcI id) ∧ a = 0 ∧ d = 0 ∧ q = false) ∨ ∃ y ∈ σ.cs, y.k = kcI id ∧ a = y.c.aa ∧ d = y.c.ad ∧ q = y.c.took
theorem ans_sys (σ : Sys) (wf : σ.Wf) (id : Nat → Int) :
    Meets Try.prog 37 [.pointer (some ⟨σ.b, 0, none⟩), idVal id] σ.hps (fun r hs => hs = σ.hps ∧ ∃ a d q, r = .tuple #[.agg #[.int .u8 a, .int .u8 d], .bool q] ∧ σ.ans id a d q) := by
  obtain ⟨b, mc, ma, s, ds, cs⟩ := σ
  by_cases hy : ∃ y ∈ cs, y.k = kcI id
  · obtain ⟨y, hy, hyk⟩ := hy
    obtain ⟨q3, q4⟩ := wf.c1 y hy
    simp only [hyk] at q3 q4
    obtain ⟨m1, m2, hcs⟩ := List.append_of_mem hy
    subst hcs
    refine (((ans1_meets b mc ma y.b y.v s y.c id q3 q4).frame _).pre (Ent.perm hps_call)).post ?_
    rintro r hs ⟨hs0, rfl, rfl, rfl⟩
    exact ⟨_, Ent.perm hps_call.symm, rfl, _, _, _, rfl, .inr ⟨y, hy, hyk, rfl, rfl, rfl⟩⟩
  · have hy' : ∀ y ∈ cs, y.k ≠ kcI id := fun y h1 h2 => hy ⟨y, h1, h2⟩
    obtain ⟨q3, q4⟩ := wf.c0 _ hy'
    have h := (ans0_meets b mc ma s id q3 q4).frame ([mapHP ma [.u8, .u8] true false ([.pointer none]) (fun i => !(s.hasD i == 0)) (mcols [colP 1 s.ptrD])] ++ (ds.flatMap DE.hps ++ cs.flatMap CE.hps))
    refine Meets.post h ?_
    rintro r hs ⟨hs0, rfl, rfl, rfl⟩
    exact ⟨_, Ent.refl _, rfl, 0, 0, false, rfl, .inl ⟨hy', rfl, rfl, rfl⟩⟩
end Go.RX.So

namespace Go.RX.So
open Go.RX Go.Proofs

theorem kcD_inj {a d a' d' : Int} (h : kcD a d = kcD a' d') : a = a' ∧ d = d' := by
  have := kcode_inj (by simp) h
  simp only [List.range_succ, List.range_zero, List.nil_append, List.map_append, List.map_cons, List.map_nil, List.singleton_append, List.cons.injEq, and_true] at this
  simpa [updF] using this
theorem wrapU8 {x : Int} (h0 : 0 ≤ x) (h1 : x < 256) : IntKind.wrap .u8 x = x := by
  simp [IntKind.wrap, IntKind.signed, IntKind.bits]
  omega

/-- The devices that have been made, up to device j of account i. -/
def Made (i j : Int) (H P : Nat → Int) (p : HP) : Prop :=
  ∃ ds : List DE, p = HP.star (ds.flatMap DE.hps) ∧ (∀ x ∈ ds, H x.k = 1 ∧ P x.k = (x.b : Nat) + 1) ∧ (∀ k, (∀ x ∈ ds, x.k ≠ k) → H k = 0 ∧ P k = 0) ∧ ds.Pairwise (fun x y => x.k ≠ y.k) ∧
    ∀ x ∈ ds, x.d = dv0 ∧ ∃ a d : Int, x.k = kcD a d ∧ (a < i ∨ (a = i ∧ d < j))
theorem Made.start : Made 0 0 (fun _ => 0) (fun _ => 0) (HP.star []) := ⟨[], rfl, fun _ h => (nomatch h), fun _ _ => ⟨rfl, rfl⟩, List.Pairwise.nil, fun _ h => (nomatch h)⟩
theorem Made.next {i j : Int} {H P : Nat → Int} {p : HP} (h : Made i j H P p) : Made (i + 1) 0 H P p := by
  obtain ⟨ds, h1, h2, h3, h4, h5⟩ := h
  refine ⟨ds, h1, h2, h3, h4, fun x hx => ?_⟩
  obtain ⟨q1, a, d, q2, q3⟩ := h5 x hx
  exact ⟨q1, a, d, q2, by omega⟩
theorem Made.more {i j : Int} {H P : Nat → Int} {ds : List DE} (h2 : ∀ x ∈ ds, H x.k = 1 ∧ P x.k = (x.b : Nat) + 1) (h3 : ∀ k, (∀ x ∈ ds, x.k ≠ k) → H k = 0 ∧ P k = 0) (h4 : ds.Pairwise fun x y => x.k ≠ y.k)
    (h5 : ∀ x ∈ ds, x.d = dv0 ∧ ∃ a d : Int, x.k = kcD a d ∧ (a < i ∨ (a = i ∧ d < j))) (b h : Nat) :
    Made i (j + 1) (updF H (kcD i j) 1) (updF P (kcD i j) ((b : Nat) + 1)) (HP.star (((⟨kcD i j, b, h, nilS, dv0⟩ :: ds) : List DE).flatMap DE.hps)) := by
  have hne : ∀ x ∈ ds, x.k ≠ kcD i j := by
    intro x hx e
    obtain ⟨_, a, d, q2, q3⟩ := h5 x hx
    have := kcD_inj (q2.symm.trans e)
    omega
  refine ⟨_, rfl, ?_, ?_, ?_, ?_⟩
  · intro x hx
    rcases List.mem_cons.1 hx with rfl | hx
    · simp [updF]
    · rw [updF, if_neg (hne x hx), updF, if_neg (hne x hx)]
      exact h2 x hx
  · intro k hk
    have e : k ≠ kcD i j := fun e => hk _ List.mem_cons_self e.symm
    rw [updF, if_neg e, updF, if_neg e]
    exact h3 k fun x hx => hk x (List.mem_cons_of_mem _ hx)
  · exact List.Pairwise.cons (fun x hx => (hne x hx).symm) h4
  · intro x hx
    rcases List.mem_cons.1 hx with rfl | hx
    · exact ⟨rfl, i, j, rfl, .inr ⟨rfl, by omega⟩⟩
    · obtain ⟨q1, a, d, q2, q3⟩ := h5 x hx
      exact ⟨q1, a, d, q2, by omega⟩

theorem new_meets (A0 : Nat → Int) : Meets Try.prog 35 [.agg (List.append (segCells .u8 8 A0) ([])).toArray] []
    (fun r hs => ∃ σ : Sys, r = .pointer (some ⟨σ.b, 0, none⟩) ∧ hs = [HP.star σ.hps] ∧ σ.Wf ∧ σ.cs = [] ∧ σ.s.last = 0 ∧ σ.s.dv = A0 ∧ ∀ x ∈ σ.ds, x.d = dv0) := by
  refine Meets.post (p := fun r hs => ∃ hs', Ent hs hs' ∧ ∃ σ : Sys, r = .pointer (some ⟨σ.b, 0, none⟩) ∧ hs' = [HP.star σ.hps] ∧ σ.Wf ∧ σ.cs = [] ∧ σ.s.last = 0 ∧ σ.s.dv = A0 ∧ ∀ x ∈ σ.ds, x.d = dv0) ?_ fun v hs h => h
  refine Meets.of_runE (C := Sn.cx) (args := Sn.newArgs) (hp := []) (cnt := { a := 1 }) (ρ := { av := [A0] }) okT okFT okM Try.func35 (by constructor <;> rfl) Sn.run_new (Sn.vc_new Try.prog _ A0 _) ?_
  unfold Sn.st_new
  intro b0 b1 b2 b3
  refine ⟨fun e => e.p.getD 0 HP.emp = HP.star [], fun w Fs o => ⟨HP.star [], Ent.star (l := []) (fun _ hh => (nomatch hh)) w Fs o, rfl⟩, ?_⟩
  rintro p0 hp0
  simp only [List.getD_cons_zero] at hp0
  subst hp0
  refine ⟨fun e => 0 ≤ e.i.getD 0 0 ∧ Made (e.i.getD 0 0) 0 (e.a.getD 0 fun _ => 0) (e.a.getD 1 fun _ => 0) (e.p.getD 0 HP.emp), fun e => (8 - e.i.getD 0 0).toNat, ⟨0, _, _, _, rfl, rfl, rfl, rfl, Int.le_refl _, Made.start⟩, ?_⟩
  rintro x0 A1 A2 p1 ⟨hx0, hm0⟩
  simp only [List.getD_cons_zero, List.getD_cons_succ] at hx0 hm0
  refine Fork.mk (fun hlt => Need.mk hx0 fun _ => ?_) fun hge => ?_
  · refine ⟨fun e => 0 ≤ e.i.getD 0 0 ∧ Made x0 (e.i.getD 0 0) (e.a.getD 0 fun _ => 0) (e.a.getD 1 fun _ => 0) (e.p.getD 0 HP.emp), fun e => (4 - e.i.getD 0 0).toNat, ⟨0, _, _, _, rfl, rfl, rfl, rfl, Int.le_refl _, hm0⟩, ?_⟩
    rintro x1 A3 A4 p2 ⟨hx1, hm1⟩
    simp only [List.getD_cons_zero, List.getD_cons_succ] at hx1 hm1
    refine Fork.mk (fun hc b4 b5 => ?_) fun hc => ?_
    · obtain ⟨ds, rfl, h2, h3, h4, h5⟩ := hm1
      refine ⟨fun e => e.p.getD 0 HP.emp = HP.star (((⟨kcD x0 x1, b5, b4, nilS, dv0⟩ :: ds) : List DE).flatMap DE.hps), fun w Fs o => ⟨_, ?_, rfl⟩, ?_⟩
      · have e1 : Ent [HP.star (ds.flatMap DE.hps), rowHP b5 true (.int .u8 0 :: (List.append (segCells .u8 16 (fun _ => 0)) ([.bool false, .int .u8 0, .int .u8 0, .int .u8 0, .int .u64 0, .int .u64 0, .map (some b4), .slice none 0 0]))), mapHP b4 K16 true true ([]) (fun i => !((fun _ => 0) i == 0)) (mcols [])]
            [HP.star (((⟨kcD x0 x1, b5, b4, nilS, dv0⟩ :: ds) : List DE).flatMap DE.hps)] := by
          refine Ent.trans (Ent.owned0 _ 85 22) ?_
          refine Ent.trans (Ent.frame (Ent.unstar (ds.flatMap DE.hps)) (DE.hps ⟨kcD x0 x1, b5, b4, nilS, dv0⟩)) ?_
          refine Ent.trans (Ent.perm List.perm_append_comm) ?_
          refine Ent.star ?_
          intro h hh
          exact sys_wr ⟨0, 0, 0, ⟨fun _ => 0, 0, fun _ => 0, fun _ => 0, fun _ => 0, fun _ => 0⟩, ⟨kcD x0 x1, b5, b4, nilS, dv0⟩ :: ds, []⟩ h (by
            simp only [Sys.hps, List.mem_append]
            exact .inr (.inl hh))
        exact e1 w Fs o
      · rintro p3 hp3
        simp only [List.getD_cons_zero] at hp3
        subst hp3
        have hx1' : x1 < 4 := by omega
        refine ⟨_, _, _, _, rfl, rfl, rfl, rfl, ⟨?_, ?_⟩, ?_⟩
        · simp only [List.getD_cons_zero]
          rw [wrapU8 (by omega) (by omega)]
          omega
        · simp only [List.getD_cons_zero, List.getD_cons_succ]
          rw [wrapU8 (x := x0) (by omega) (by omega), wrapU8 (x := x1 + 1) (by omega) (by omega)]
          exact Made.more h2 h3 h4 h5 b5 b4
        · simp only [List.getD_cons_zero]
          rw [wrapU8 (by omega) (by omega)]
          omega
    · refine Need.mk (by omega) fun _ => Need.mk (by omega) fun _ => ⟨_, _, _, _, rfl, rfl, rfl, rfl, ⟨?_, ?_⟩, ?_⟩
      · simp only [List.getD_cons_zero]; omega
      · simp only [List.getD_cons_zero, List.getD_cons_succ]; exact hm1.next
      · simp only [List.getD_cons_zero]; omega
  · obtain ⟨ds, rfl, h2, h3, h4, h5⟩ := hm0
    refine ⟨_, ?_, ⟨b3, b1, b2, ⟨A0, 0, fun _ => 0, fun _ => 0, A1, A2⟩, ds, []⟩, rfl, rfl, ⟨h2, h3, fun y h => (by cases h), fun _ _ => ⟨rfl, rfl⟩, h4, List.Pairwise.nil⟩, rfl, rfl, rfl, fun x hx => (h5 x hx).1⟩
    have e2 : Ent [rowHP b0 true (List.append (segCells .u8 8 A0) ([])), mapHP b1 K16 true false ([.pointer none]) (fun i => !((fun _ => 0) i == 0)) (mcols [colP 1 (fun _ => 0)]), mapHP b2 [.u8, .u8] true false ([.pointer none]) (fun i => !(A1 i == 0)) (mcols [colP 1 A2]), rowHP b3 true (List.append (segCells .u8 8 A0) ([.map (some b1), .map (some b2), .int .u64 0])), HP.star (ds.flatMap DE.hps)]
        [HP.star (Sys.hps ⟨b3, b1, b2, ⟨A0, 0, fun _ => 0, fun _ => 0, A1, A2⟩, ds, []⟩)] := by
      refine Ent.trans (Ent.idx' [4, 3, 1, 2] (by decide) (b := [HP.star (ds.flatMap DE.hps)] ++ sysHPs b3 b1 b2 ⟨A0, 0, fun _ => 0, fun _ => 0, A1, A2⟩) ?_) ?_
      · intro j x hj
        match j, hj with
        | 0, hj => exact ⟨4, rfl, hj⟩
        | 1, hj => exact ⟨3, rfl, hj⟩
        | 2, hj => exact ⟨1, rfl, hj⟩
        | 3, hj => exact ⟨2, rfl, hj⟩
        | j + 4, hj => cases hj
      · refine Ent.trans (Ent.frame (Ent.unstar (ds.flatMap DE.hps)) _) ?_
        refine Ent.trans (Ent.perm List.perm_append_comm) ?_
        have : sysHPs b3 b1 b2 ⟨A0, 0, fun _ => 0, fun _ => 0, A1, A2⟩ ++ ds.flatMap DE.hps = Sys.hps ⟨b3, b1, b2, ⟨A0, 0, fun _ => 0, fun _ => 0, A1, A2⟩, ds, []⟩ := by simp [Sys.hps]
        rw [this]
        exact Ent.star (sys_wr _)
    exact e2
end Go.RX.So
