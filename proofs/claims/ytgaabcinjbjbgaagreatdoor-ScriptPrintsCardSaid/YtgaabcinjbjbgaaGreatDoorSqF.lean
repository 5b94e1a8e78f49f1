/- ScriptPrints: what the law and its functions leave to be shown; printed by a program of ours (wip/tools). -/
import Derived.Test.YtgaabcinjbjbgaaGreatDoorAuCtx
import Derived.Test.YtgaabcinjbjbgaaGreatDoorAuA
import Derived.Test.YtgaabcinjbjbgaaGreatDoorRyK
namespace Go.RX.Sq
open Go.RX Go.Proofs
noncomputable def cx : Ctx := { T := TT, FT := FT, loops := loops, calls := calls, ghosts := ghosts, pure := pure }
noncomputable def cxT : Ctx := { T := TT, FT := FT, loops := loopsT, calls := callsT, pure := Sc.pure }
set_option maxRecDepth 100000
noncomputable def fm_heavy : F := runF cx 13 ([Go.RX.SV.vv 0]) ([Go.RX.Ck.abs 0, Go.RX.Ck.sli false 0 39 8 (Go.RX.E.var 0) [{ ck := Go.RX.CK.int (Go.IntKind.u8), w := 1, a := Go.RX.E.avar 0 }, { ck := Go.RX.CK.int (Go.IntKind.u8), w := 1, a := Go.RX.E.avar 1 }, { ck := Go.RX.CK.int (Go.IntKind.u8), w := 1, a := Go.RX.E.avar 2 }, { ck := Go.RX.CK.int (Go.IntKind.u8), w := 1, a := Go.RX.E.avar 3 }, { ck := Go.RX.CK.int (Go.IntKind.u8), w := 1, a := Go.RX.E.avar 4 }, { ck := Go.RX.CK.int (Go.IntKind.i64), w := 1, a := Go.RX.E.avar 5 }, { ck := Go.RX.CK.int (Go.IntKind.u64), w := 1, a := Go.RX.E.avar 6 }, { ck := Go.RX.CK.val 0, w := 1, a := Go.RX.E.lit 0 }]]) ({ b := 0, v := 1, i := 1, a := 7, bo := 0, p := 1, r := 0 }) Tryz.f13
def st_heavy (_ : Program) (Post : Value → List HP → Prop) (x0 : Int) (A0 : Nat → Int) (A1 : Nat → Int) (A2 : Nat → Int) (A3 : Nat → Int) (A4 : Nat → Int) (A5 : Nat → Int) (A6 : Nat → Int) (_ : V1) (V0 : Nat → V1) (p0 : HP) : Prop :=
 Need (0 ≤ x0) (
∃ (I0x0 : Ext → Prop) (m0x0 : Ext → Nat), (∃ x1 : Int, ∃ x2 : Int, x1 = 0 ∧ x2 = 0 ∧ I0x0 ⟨[], [], [x1, x2], [], [], [], []⟩) ∧
∀ x1 : Int, ∀ x2 : Int, I0x0 ⟨[], [], [x1, x2], [], [], [], []⟩ →
  Fork (x1 < x0) (
    Need (0 ≤ x1) (
    ∀ b0 : Nat, ∃ Ig4 : Ext → Prop, (∀ (w : World) (Fs : List HP), Owns ([rowHP b0 true ([.int .u8 (A0 (Int.toNat x1)), .int .u8 (A1 (Int.toNat x1)), .int .u8 (A2 (Int.toNat x1)), .int .u8 (A3 (Int.toNat x1)), .int .u8 (A4 (Int.toNat x1)), .int .i64 (A5 (Int.toNat x1)), .int .u64 (A6 (Int.toNat x1)), (V0 (Int.toNat x1)).v]), p0] ++ Fs) w → ∃ v1 : V1, ∃ x3 : Int, ∃ A7 : (Nat → Int), Owns ([rowHP b0 true ([.int .u8 (A0 (Int.toNat x1)), .int .u8 (A1 (Int.toNat x1)), .int .u8 (A2 (Int.toNat x1)), .int .u8 (A3 (Int.toNat x1)), .int .u8 (A4 (Int.toNat x1)), .int .i64 (A5 (Int.toNat x1)), .int .u64 (A6 (Int.toNat x1)), v1.v]), p0, sliHP false 5 1 v1.v (Int.toNat x3) (tabL (Int.toNat x3) [colI .u8 1 A7])] ++ Fs) w ∧ Ig4 ⟨[], [v1], [x3], [A7], [], [], []⟩) ∧
    (∀ v1 : V1, ∀ x3 : Int, ∀ A7 : (Nat → Int), Ig4 ⟨[], [v1], [x3], [A7], [], [], []⟩ →
    Need (0 ≤ x3) (
    Need ((-9223372036854775808) ≤ (1 + (IntKind.wrap .i64 (iop .quo .i64 x3 16)))) (
    Need ((1 + (IntKind.wrap .i64 (iop .quo .i64 x3 16))) ≤ 9223372036854775807) (
    Need ((-9223372036854775808) ≤ (x2 + (1 + (IntKind.wrap .i64 (iop .quo .i64 x3 16))))) (
    Need ((x2 + (1 + (IntKind.wrap .i64 (iop .quo .i64 x3 16)))) ≤ 9223372036854775807) (
    Fork (1500 < (x2 + (1 + (IntKind.wrap .i64 (iop .quo .i64 x3 16))))) (
      Post (.bool true) []) (
      Need ((-9223372036854775808) ≤ (x1 + 1)) (
      Need ((x1 + 1) ≤ 9223372036854775807) (
      ∃ x1' : Int, ∃ x2' : Int, x1' = (x1 + 1) ∧ x2' = (x2 + (1 + (IntKind.wrap .i64 (iop .quo .i64 x3 16)))) ∧ I0x0 ⟨[], [], [x1', x2'], [], [], [], []⟩ ∧ m0x0 ⟨[], [], [x1', x2'], [], [], [], []⟩ < m0x0 ⟨[], [], [x1, x2], [], [], [], []⟩))))))))))) (
    Post (.bool false) []))
theorem vc_heavy (P : Program) (Post : Value → List HP → Prop) (x0 : Int) (A0 : Nat → Int) (A1 : Nat → Int) (A2 : Nat → Int) (A3 : Nat → Int) (A4 : Nat → Int) (A5 : Nat → Int) (A6 : Nat → Int) (v0 : V1) (V0 : Nat → V1) (p0 : HP) (L : Nat → LC) : VC P (fun v _ => Post v []) fm_heavy { iv := [x0], av := [A0, A1, A2, A3, A4, A5, A6], bo := [], bv := [], vv := [v0], va := [V0], pv := [p0] } L = st_heavy P Post x0 A0 A1 A2 A3 A4 A5 A6 v0 V0 p0 := by kernel_rfl
theorem run_heavy : runF cx 13 ([Go.RX.SV.vv 0]) ([Go.RX.Ck.abs 0, Go.RX.Ck.sli false 0 39 8 (Go.RX.E.var 0) [{ ck := Go.RX.CK.int (Go.IntKind.u8), w := 1, a := Go.RX.E.avar 0 }, { ck := Go.RX.CK.int (Go.IntKind.u8), w := 1, a := Go.RX.E.avar 1 }, { ck := Go.RX.CK.int (Go.IntKind.u8), w := 1, a := Go.RX.E.avar 2 }, { ck := Go.RX.CK.int (Go.IntKind.u8), w := 1, a := Go.RX.E.avar 3 }, { ck := Go.RX.CK.int (Go.IntKind.u8), w := 1, a := Go.RX.E.avar 4 }, { ck := Go.RX.CK.int (Go.IntKind.i64), w := 1, a := Go.RX.E.avar 5 }, { ck := Go.RX.CK.int (Go.IntKind.u64), w := 1, a := Go.RX.E.avar 6 }, { ck := Go.RX.CK.val 0, w := 1, a := Go.RX.E.lit 0 }]]) ({ b := 0, v := 1, i := 1, a := 7, bo := 0, p := 1, r := 0 }) Tryz.f13 = fm_heavy := rfl
noncomputable def fm_rprint : F := runF cx 18 ([Go.RX.SV.vv 0]) ([Go.RX.Ck.abs 0, Go.RX.Ck.sli false 0 39 8 (Go.RX.E.var 0) [{ ck := Go.RX.CK.int (Go.IntKind.u8), w := 1, a := Go.RX.E.avar 0 }, { ck := Go.RX.CK.int (Go.IntKind.u8), w := 1, a := Go.RX.E.avar 1 }, { ck := Go.RX.CK.int (Go.IntKind.u8), w := 1, a := Go.RX.E.avar 2 }, { ck := Go.RX.CK.int (Go.IntKind.u8), w := 1, a := Go.RX.E.avar 3 }, { ck := Go.RX.CK.int (Go.IntKind.u8), w := 1, a := Go.RX.E.avar 4 }, { ck := Go.RX.CK.int (Go.IntKind.i64), w := 1, a := Go.RX.E.avar 5 }, { ck := Go.RX.CK.int (Go.IntKind.u64), w := 1, a := Go.RX.E.avar 6 }, { ck := Go.RX.CK.val 0, w := 1, a := Go.RX.E.lit 0 }]]) ({ b := 0, v := 1, i := 1, a := 7, bo := 0, p := 1, r := 0 }) Tryz.f18
def st_rprint (P : Program) (Post : Value → List HP → Prop) (x0 : Int) (A0 : Nat → Int) (A1 : Nat → Int) (A2 : Nat → Int) (A3 : Nat → Int) (A4 : Nat → Int) (A5 : Nat → Int) (A6 : Nat → Int) (_ : V1) (V0 : Nat → V1) (p0 : HP) : Prop :=
∃ (I0x0 : Ext → Prop) (m0x0 : Ext → Nat), (∃ x1 : Int, ∃ A7 : (Nat → Int), x1 = 0 ∧ (A7 = (rowLF [0])) ∧ I0x0 ⟨[], [], [x1], [A7], [], [], []⟩) ∧
∀ x1 : Int, ∀ A7 : (Nat → Int), I0x0 ⟨[], [], [x1], [A7], [], [], []⟩ →
  Need (0 ≤ x0) (
  Fork (x1 < x0) (
    Fork (x1 = 1000) (
      Post (.tuple #[.string ⟨#[]⟩, .int .i64 3]) []) (
      Need (0 ≤ x1) (
      ∃ post, Meets P 15 [.agg #[.int .u8 (A0 (Int.toNat x1)), .int .u8 (A1 (Int.toNat x1)), .int .u8 (A2 (Int.toNat x1)), .int .u8 (A3 (Int.toNat x1)), .int .u8 (A4 (Int.toNat x1)), .int .i64 (A5 (Int.toNat x1)), .int .u64 (A6 (Int.toNat x1)), (V0 (Int.toNat x1)).v]] [p0] post ∧
      ∀ x hs, post x hs → ∃ A8 : (Nat → Int), x = .string ⟨(strD A8).toArray⟩ ∧ hs = [p0] ∧
      Fork (strD A8 = strD (rowLF [0])) (
        Post (.tuple #[.string ⟨#[]⟩, .int .i64 2]) []) (
        Need (0 ≤ (A7 0)) (
        Need (0 ≤ (A8 0)) (
        Need (((A7 0) + (A8 0)) ≤ 9223372036854775807) (
        Need (0 ≤ ((A7 0) + (A8 0))) (
        Need ((((A7 0) + (A8 0)) + 1) ≤ 9223372036854775807) (
        Need (0 ≤ (((A7 0) + (A8 0)) + 1)) (
        Fork (262144 < (((A7 0) + (A8 0)) + 1)) (
          Post (.tuple #[.string ⟨#[]⟩, .int .i64 3]) []) (
          Need ((-9223372036854775808) ≤ (x1 + 1)) (
          Need ((x1 + 1) ≤ 9223372036854775807) (
          ∃ x1' : Int, ∃ A7' : (Nat → Int), x1' = (x1 + 1) ∧ (A7' = (catF (catF A7 A8) (rowLF [1, 10]))) ∧ I0x0 ⟨[], [], [x1'], [A7'], [], [], []⟩ ∧ m0x0 ⟨[], [], [x1'], [A7'], [], [], []⟩ < m0x0 ⟨[], [], [x1], [A7], [], [], []⟩))))))))))))) (
    Post (.tuple #[.string ⟨(strD A7).toArray⟩, .int .i64 0]) []))
theorem vc_rprint (P : Program) (Post : Value → List HP → Prop) (x0 : Int) (A0 : Nat → Int) (A1 : Nat → Int) (A2 : Nat → Int) (A3 : Nat → Int) (A4 : Nat → Int) (A5 : Nat → Int) (A6 : Nat → Int) (v0 : V1) (V0 : Nat → V1) (p0 : HP) (L : Nat → LC) : VC P (fun v _ => Post v []) fm_rprint { iv := [x0], av := [A0, A1, A2, A3, A4, A5, A6], bo := [], bv := [], vv := [v0], va := [V0], pv := [p0] } L = st_rprint P Post x0 A0 A1 A2 A3 A4 A5 A6 v0 V0 p0 := by kernel_rfl
theorem run_rprint : runF cx 18 ([Go.RX.SV.vv 0]) ([Go.RX.Ck.abs 0, Go.RX.Ck.sli false 0 39 8 (Go.RX.E.var 0) [{ ck := Go.RX.CK.int (Go.IntKind.u8), w := 1, a := Go.RX.E.avar 0 }, { ck := Go.RX.CK.int (Go.IntKind.u8), w := 1, a := Go.RX.E.avar 1 }, { ck := Go.RX.CK.int (Go.IntKind.u8), w := 1, a := Go.RX.E.avar 2 }, { ck := Go.RX.CK.int (Go.IntKind.u8), w := 1, a := Go.RX.E.avar 3 }, { ck := Go.RX.CK.int (Go.IntKind.u8), w := 1, a := Go.RX.E.avar 4 }, { ck := Go.RX.CK.int (Go.IntKind.i64), w := 1, a := Go.RX.E.avar 5 }, { ck := Go.RX.CK.int (Go.IntKind.u64), w := 1, a := Go.RX.E.avar 6 }, { ck := Go.RX.CK.val 0, w := 1, a := Go.RX.E.lit 0 }]]) ({ b := 0, v := 1, i := 1, a := 7, bo := 0, p := 1, r := 0 }) Tryz.f18 = fm_rprint := rfl
noncomputable def fm_law : F := runF cx 4 ([Go.RX.SV.vv 0, Go.RX.SV.agg [Go.RX.SV.bool (Go.RX.BE.var 0), Go.RX.SV.int (Go.IntKind.i64) (Go.RX.E.var 1), Go.RX.SV.seg (Go.IntKind.u8) 16 (Go.RX.E.avar 7), Go.RX.SV.vv 1]]) ([Go.RX.Ck.abs 0, Go.RX.Ck.sli false 0 39 8 (Go.RX.E.var 0) [{ ck := Go.RX.CK.int (Go.IntKind.u8), w := 1, a := Go.RX.E.avar 0 }, { ck := Go.RX.CK.int (Go.IntKind.u8), w := 1, a := Go.RX.E.avar 1 }, { ck := Go.RX.CK.int (Go.IntKind.u8), w := 1, a := Go.RX.E.avar 2 }, { ck := Go.RX.CK.int (Go.IntKind.u8), w := 1, a := Go.RX.E.avar 3 }, { ck := Go.RX.CK.int (Go.IntKind.u8), w := 1, a := Go.RX.E.avar 4 }, { ck := Go.RX.CK.int (Go.IntKind.i64), w := 1, a := Go.RX.E.avar 5 }, { ck := Go.RX.CK.int (Go.IntKind.u64), w := 1, a := Go.RX.E.avar 6 }, { ck := Go.RX.CK.val 0, w := 1, a := Go.RX.E.lit 0 }], Go.RX.Ck.sli false 1 5 1 (Go.RX.E.var 2) [{ ck := Go.RX.CK.int (Go.IntKind.u8), w := 1, a := Go.RX.E.avar 8 }]]) ({ b := 0, v := 2, i := 3, a := 9, bo := 1, p := 1, r := 0 }) Tryz.f4
def st_law (P : Program) (Post : Value → List HP → Prop) (x0 : Int) (x1 : Int) (x2 : Int) (A0 : Nat → Int) (A1 : Nat → Int) (A2 : Nat → Int) (A3 : Nat → Int) (A4 : Nat → Int) (A5 : Nat → Int) (A6 : Nat → Int) (A7 : Nat → Int) (_ : Nat → Int) (q0 : Bool) (v0 : V1) (v1 : V1) (V0 : Nat → V1) (p0 : HP) : Prop :=
∀ _ : Nat, ∃ post, Meets P 13 [v0.v] [p0, sliHP false 39 8 v0.v (Int.toNat x0) (tabL (Int.toNat x0) [colI .u8 1 A0, colI .u8 1 A1, colI .u8 1 A2, colI .u8 1 A3, colI .u8 1 A4, colI .i64 1 A5, colI .u64 1 A6, colV 1 (fun j => (V0 j).v)])] post ∧
∀ x hs, post x hs → ∃ q1 : Bool, x = .bool q1 ∧ hs = [p0, sliHP false 39 8 v0.v (Int.toNat x0) (tabL (Int.toNat x0) [colI .u8 1 A0, colI .u8 1 A1, colI .u8 1 A2, colI .u8 1 A3, colI .u8 1 A4, colI .i64 1 A5, colI .u64 1 A6, colV 1 (fun j => (V0 j).v)])] ∧
 Need ((q1 = true) ∨ (0 ≤ x2)) (
 Fork ((q1 = true) ∨ (3000 < x2)) (
  Post (.bool true) []) (
  Need (0 ≤ x0) (
  ∃ (I0x2 : Ext → Prop) (m0x2 : Ext → Nat), (∃ x3 : Int, x3 = 0 ∧ I0x2 ⟨[], [], [x3], [], [], [], []⟩) ∧
  ∀ x3 : Int, I0x2 ⟨[], [], [x3], [], [], [], []⟩ →
    Fork (x3 < x0) (
      Need (0 ≤ x3) (
      ∀ _ : Nat, ∃ post, Meets P 14 [.agg #[.int .u8 (A0 (Int.toNat x3)), .int .u8 (A1 (Int.toNat x3)), .int .u8 (A2 (Int.toNat x3)), .int .u8 (A3 (Int.toNat x3)), .int .u8 (A4 (Int.toNat x3)), .int .i64 (A5 (Int.toNat x3)), .int .u64 (A6 (Int.toNat x3)), (V0 (Int.toNat x3)).v]] [p0] post ∧
      ∀ x hs, post x hs → ∃ A9 : (Nat → Int), ∃ q2 : Bool, x = .tuple #[.string ⟨(strD A9).toArray⟩, .bool q2] ∧ hs = [p0] ∧
      ∃ post, Meets P 15 [.agg #[.int .u8 (A0 (Int.toNat x3)), .int .u8 (A1 (Int.toNat x3)), .int .u8 (A2 (Int.toNat x3)), .int .u8 (A3 (Int.toNat x3)), .int .u8 (A4 (Int.toNat x3)), .int .i64 (A5 (Int.toNat x3)), .int .u64 (A6 (Int.toNat x3)), (V0 (Int.toNat x3)).v]] [p0] post ∧
      ∀ x hs, post x hs → ∃ A10 : (Nat → Int), x = .string ⟨(strD A10).toArray⟩ ∧ hs = [p0] ∧
      Fork ((¬ (strD A9 = strD A10)) ∨ (¬ (((q2 = true) → (¬ (strD A10 = strD (rowLF [0])))) ∧ (¬ (q2 = true) → (strD A10 = strD (rowLF [0])))))) (
        Post (.bool false) []) (
        Need ((-9223372036854775808) ≤ (x3 + 1)) (
        Need ((x3 + 1) ≤ 9223372036854775807) (
        ∃ x3' : Int, x3' = (x3 + 1) ∧ I0x2 ⟨[], [], [x3'], [], [], [], []⟩ ∧ m0x2 ⟨[], [], [x3'], [], [], [], []⟩ < m0x2 ⟨[], [], [x3], [], [], [], []⟩))))) (
      ∀ _ : Nat, ∀ _ : Nat, ∀ _ : Nat, ∀ b4 : Nat, ∀ _ : Nat, ∀ (_ _ : Nat) (_ : Loop), Need (0 ≤ x0) (
      ∃ (I0x6 : Ext → Prop) (m0x6 : Ext → Nat), (∃ x4 : Int, ∃ x5 : Int, ∃ x6 : Int, ∃ A9 : (Nat → Int), x4 = 0 ∧ x6 = 0 ∧ (∀ j, j < (Int.toNat x6) → A9 j = (fun _ => 0) j) ∧ x5 = 0 ∧ I0x6 ⟨[], [], [x4, x5, x6], [A9], [], [], []⟩) ∧
      ∀ x4 : Int, ∀ x5 : Int, ∀ x6 : Int, ∀ A9 : (Nat → Int), I0x6 ⟨[], [], [x4, x5, x6], [A9], [], [], []⟩ →
        Fork (x4 < x0) (
          Need (0 ≤ x4) (
          ∀ _ : Nat, ∀ _ : Nat, Need ((-9223372036854775808) ≤ (x5 + 1)) (
          Need ((x5 + 1) ≤ 9223372036854775807) (
          Fork (1000 < (x5 + 1)) (
            ∃ post, Meets P 18 [v0.v] [p0, sliHP false 39 8 v0.v (Int.toNat x0) (tabL (Int.toNat x0) [colI .u8 1 A0, colI .u8 1 A1, colI .u8 1 A2, colI .u8 1 A3, colI .u8 1 A4, colI .i64 1 A5, colI .u64 1 A6, colV 1 (fun j => (V0 j).v)])] post ∧
            ∀ x hs, post x hs → ∃ x7 : Int, ∃ A10 : (Nat → Int), x = .tuple #[.string ⟨(strD A10).toArray⟩, .int .i64 x7] ∧ hs = [p0, sliHP false 39 8 v0.v (Int.toNat x0) (tabL (Int.toNat x0) [colI .u8 1 A0, colI .u8 1 A1, colI .u8 1 A2, colI .u8 1 A3, colI .u8 1 A4, colI .i64 1 A5, colI .u64 1 A6, colV 1 (fun j => (V0 j).v)])] ∧
            Fork ((strD (rowLF [0]) = strD A10) ∧ (3 = x7)) (
              ∃ post, Meets P 19 [.agg (.bool q0 :: (.int .i64 x1 :: (List.append (segCells .u8 16 A7) ([v1.v])))).toArray] [p0] post ∧
              ∀ x hs, post x hs → ∃ A11 : (Nat → Int), x = .string ⟨(strD A11).toArray⟩ ∧ hs = [p0] ∧
              ∃ post, Meets P 20 [(if ((strD (rowLF [0]) == strD A10) && (3 == x7)) then .agg (.bool q0 :: (.int .i64 x1 :: (List.append (segCells .u8 16 A7) ([v1.v])))).toArray else undef)] [p0] post ∧
              ∀ x hs, post x hs → ∃ A12 : (Nat → Int), x = .string ⟨(strD A12).toArray⟩ ∧ hs = [p0] ∧
              Post (.bool (strD A11 == strD A12)) []) (
              Post (.bool false) [])) (
            ∃ post, Meets P 14 [.agg #[.int .u8 (A0 (Int.toNat x4)), .int .u8 (A1 (Int.toNat x4)), .int .u8 (A2 (Int.toNat x4)), .int .u8 (A3 (Int.toNat x4)), .int .u8 (A4 (Int.toNat x4)), .int .i64 (A5 (Int.toNat x4)), .int .u64 (A6 (Int.toNat x4)), (V0 (Int.toNat x4)).v]] [p0] post ∧
            ∀ x hs, post x hs → ∃ A10 : (Nat → Int), ∃ q2 : Bool, x = .tuple #[.string ⟨(strD A10).toArray⟩, .bool q2] ∧ hs = [p0] ∧
            Fork (¬ (q2 = true)) (
              ∃ post, Meets P 18 [v0.v] [p0, sliHP false 39 8 v0.v (Int.toNat x0) (tabL (Int.toNat x0) [colI .u8 1 A0, colI .u8 1 A1, colI .u8 1 A2, colI .u8 1 A3, colI .u8 1 A4, colI .i64 1 A5, colI .u64 1 A6, colV 1 (fun j => (V0 j).v)])] post ∧
              ∀ x hs, post x hs → ∃ x7 : Int, ∃ A11 : (Nat → Int), x = .tuple #[.string ⟨(strD A11).toArray⟩, .int .i64 x7] ∧ hs = [p0, sliHP false 39 8 v0.v (Int.toNat x0) (tabL (Int.toNat x0) [colI .u8 1 A0, colI .u8 1 A1, colI .u8 1 A2, colI .u8 1 A3, colI .u8 1 A4, colI .i64 1 A5, colI .u64 1 A6, colV 1 (fun j => (V0 j).v)])] ∧
              Fork ((strD (rowLF [0]) = strD A11) ∧ (2 = x7)) (
                ∃ post, Meets P 19 [.agg (.bool q0 :: (.int .i64 x1 :: (List.append (segCells .u8 16 A7) ([v1.v])))).toArray] [p0] post ∧
                ∀ x hs, post x hs → ∃ A12 : (Nat → Int), x = .string ⟨(strD A12).toArray⟩ ∧ hs = [p0] ∧
                ∃ post, Meets P 20 [(if ((strD (rowLF [0]) == strD A11) && (2 == x7)) then .agg (.bool q0 :: (.int .i64 x1 :: (List.append (segCells .u8 16 A7) ([v1.v])))).toArray else undef)] [p0] post ∧
                ∀ x hs, post x hs → ∃ A13 : (Nat → Int), x = .string ⟨(strD A13).toArray⟩ ∧ hs = [p0] ∧
                Post (.bool (strD A12 == strD A13)) []) (
                Post (.bool false) [])) (
              Need (0 ≤ (A10 0)) (
              Need (((A10 0) + 1) ≤ 9223372036854775807) (
              Need (0 ≤ x6) (
              Need (0 ≤ ((A10 0) + 1)) (
              Need ((x6 + ((A10 0) + 1)) ≤ 140737488355328) (
              Need (0 ≤ (x6 + ((A10 0) + 1))) (
              Fork (262144 < (x6 + ((A10 0) + 1))) (
                ∃ post, Meets P 18 [v0.v] [p0, sliHP false 39 8 v0.v (Int.toNat x0) (tabL (Int.toNat x0) [colI .u8 1 A0, colI .u8 1 A1, colI .u8 1 A2, colI .u8 1 A3, colI .u8 1 A4, colI .i64 1 A5, colI .u64 1 A6, colV 1 (fun j => (V0 j).v)])] post ∧
                ∀ x hs, post x hs → ∃ x7 : Int, ∃ A11 : (Nat → Int), x = .tuple #[.string ⟨(strD A11).toArray⟩, .int .i64 x7] ∧ hs = [p0, sliHP false 39 8 v0.v (Int.toNat x0) (tabL (Int.toNat x0) [colI .u8 1 A0, colI .u8 1 A1, colI .u8 1 A2, colI .u8 1 A3, colI .u8 1 A4, colI .i64 1 A5, colI .u64 1 A6, colV 1 (fun j => (V0 j).v)])] ∧
                Fork ((strD (rowLF [0]) = strD A11) ∧ (3 = x7)) (
                  ∃ post, Meets P 19 [.agg (.bool q0 :: (.int .i64 x1 :: (List.append (segCells .u8 16 A7) ([v1.v])))).toArray] [p0] post ∧
                  ∀ x hs, post x hs → ∃ A12 : (Nat → Int), x = .string ⟨(strD A12).toArray⟩ ∧ hs = [p0] ∧
                  ∃ post, Meets P 20 [(if ((strD (rowLF [0]) == strD A11) && (3 == x7)) then .agg (.bool q0 :: (.int .i64 x1 :: (List.append (segCells .u8 16 A7) ([v1.v])))).toArray else undef)] [p0] post ∧
                  ∀ x hs, post x hs → ∃ A13 : (Nat → Int), x = .string ⟨(strD A13).toArray⟩ ∧ hs = [p0] ∧
                  Post (.bool (strD A12 == strD A13)) []) (
                  Post (.bool false) [])) (
                Need ((-9223372036854775808) ≤ (x4 + 1)) (
                Need ((x4 + 1) ≤ 9223372036854775807) (
                ∃ x4' : Int, ∃ x5' : Int, ∃ x6' : Int, ∃ A9' : (Nat → Int), x4' = (x4 + 1) ∧ x6' = (x6 + ((A10 0) + 1)) ∧ (∀ j, j < (Int.toNat x6') → A9' j = (splF A9 (Int.toNat x6) (Int.toNat ((A10 0) + 1)) (sbyF (catF A10 (rowLF [1, 10])))) j) ∧ x5' = (x5 + 1) ∧ I0x6 ⟨[], [], [x4', x5', x6'], [A9'], [], [], []⟩ ∧ m0x6 ⟨[], [], [x4', x5', x6'], [A9'], [], [], []⟩ < m0x6 ⟨[], [], [x4, x5, x6], [A9], [], [], []⟩))))))))))))))) (
          ∃ post, Meets P 47 [.pointer (some ⟨b4, 0, none⟩)] [bldHP b4 93 5 (segCells .u8 (Int.toNat x6) A9)] post ∧
          ∀ x hs, post x hs → ∃ A10 : (Nat → Int), x = .string ⟨(strD A10).toArray⟩ ∧ hs = [] ∧
          ∃ post, Meets P 18 [v0.v] [p0, sliHP false 39 8 v0.v (Int.toNat x0) (tabL (Int.toNat x0) [colI .u8 1 A0, colI .u8 1 A1, colI .u8 1 A2, colI .u8 1 A3, colI .u8 1 A4, colI .i64 1 A5, colI .u64 1 A6, colV 1 (fun j => (V0 j).v)])] post ∧
          ∀ x hs, post x hs → ∃ x7 : Int, ∃ A11 : (Nat → Int), x = .tuple #[.string ⟨(strD A11).toArray⟩, .int .i64 x7] ∧ hs = [p0, sliHP false 39 8 v0.v (Int.toNat x0) (tabL (Int.toNat x0) [colI .u8 1 A0, colI .u8 1 A1, colI .u8 1 A2, colI .u8 1 A3, colI .u8 1 A4, colI .i64 1 A5, colI .u64 1 A6, colV 1 (fun j => (V0 j).v)])] ∧
          Fork ((strD A10 = strD A11) ∧ (0 = x7)) (
            ∃ post, Meets P 19 [.agg (.bool q0 :: (.int .i64 x1 :: (List.append (segCells .u8 16 A7) ([v1.v])))).toArray] [p0] post ∧
            ∀ x hs, post x hs → ∃ A12 : (Nat → Int), x = .string ⟨(strD A12).toArray⟩ ∧ hs = [p0] ∧
            ∃ post, Meets P 20 [(if ((strD A10 == strD A11) && (0 == x7)) then .agg (.bool q0 :: (.int .i64 x1 :: (List.append (segCells .u8 16 A7) ([v1.v])))).toArray else undef)] [p0] post ∧
            ∀ x hs, post x hs → ∃ A13 : (Nat → Int), x = .string ⟨(strD A13).toArray⟩ ∧ hs = [p0] ∧
            Post (.bool (strD A12 == strD A13)) []) (
            Post (.bool false) [])))))))
theorem vc_law (P : Program) (Post : Value → List HP → Prop) (x0 : Int) (x1 : Int) (x2 : Int) (A0 : Nat → Int) (A1 : Nat → Int) (A2 : Nat → Int) (A3 : Nat → Int) (A4 : Nat → Int) (A5 : Nat → Int) (A6 : Nat → Int) (A7 : Nat → Int) (A8 : Nat → Int) (q0 : Bool) (v0 : V1) (v1 : V1) (V0 : Nat → V1) (p0 : HP) (L : Nat → LC) : VC P (fun v _ => Post v []) fm_law { iv := [x0, x1, x2], av := [A0, A1, A2, A3, A4, A5, A6, A7, A8], bo := [q0], bv := [], vv := [v0, v1], va := [V0], pv := [p0] } L = st_law P Post x0 x1 x2 A0 A1 A2 A3 A4 A5 A6 A7 A8 q0 v0 v1 V0 p0 := by kernel_rfl
theorem run_law : runF cx 4 ([Go.RX.SV.vv 0, Go.RX.SV.agg [Go.RX.SV.bool (Go.RX.BE.var 0), Go.RX.SV.int (Go.IntKind.i64) (Go.RX.E.var 1), Go.RX.SV.seg (Go.IntKind.u8) 16 (Go.RX.E.avar 7), Go.RX.SV.vv 1]]) ([Go.RX.Ck.abs 0, Go.RX.Ck.sli false 0 39 8 (Go.RX.E.var 0) [{ ck := Go.RX.CK.int (Go.IntKind.u8), w := 1, a := Go.RX.E.avar 0 }, { ck := Go.RX.CK.int (Go.IntKind.u8), w := 1, a := Go.RX.E.avar 1 }, { ck := Go.RX.CK.int (Go.IntKind.u8), w := 1, a := Go.RX.E.avar 2 }, { ck := Go.RX.CK.int (Go.IntKind.u8), w := 1, a := Go.RX.E.avar 3 }, { ck := Go.RX.CK.int (Go.IntKind.u8), w := 1, a := Go.RX.E.avar 4 }, { ck := Go.RX.CK.int (Go.IntKind.i64), w := 1, a := Go.RX.E.avar 5 }, { ck := Go.RX.CK.int (Go.IntKind.u64), w := 1, a := Go.RX.E.avar 6 }, { ck := Go.RX.CK.val 0, w := 1, a := Go.RX.E.lit 0 }], Go.RX.Ck.sli false 1 5 1 (Go.RX.E.var 2) [{ ck := Go.RX.CK.int (Go.IntKind.u8), w := 1, a := Go.RX.E.avar 8 }]]) ({ b := 0, v := 2, i := 3, a := 9, bo := 1, p := 1, r := 0 }) Tryz.f4 = fm_law := rfl
noncomputable def fm_tell : F := runF cxT 19 ([Go.RX.SV.agg [Go.RX.SV.bool (Go.RX.BE.var 0), Go.RX.SV.int (Go.IntKind.i64) (Go.RX.E.var 0), Go.RX.SV.seg (Go.IntKind.u8) 16 (Go.RX.E.avar 0), Go.RX.SV.vv 0]]) ([Go.RX.Ck.abs 0, Go.RX.Ck.sli false 0 5 1 (Go.RX.E.var 1) [{ ck := Go.RX.CK.int (Go.IntKind.u8), w := 1, a := Go.RX.E.avar 1 }]]) ({ b := 0, v := 1, i := 2, a := 2, bo := 1, p := 1, r := 0 }) Tryz.f19
def st_tell (P : Program) (Post : Value → List HP → Prop) (x0 : Int) (x1 : Int) (A0 : Nat → Int) (A1 : Nat → Int) (q0 : Bool) (v0 : V1) (p0 : HP) : Prop :=
∀ b0 : Nat, Fork (q0 = true) (
  ∃ post, Meets P 35 [.int .i64 x0] [p0] post ∧
  ∀ x hs, post x hs → ∃ A2 : (Nat → Int), x = .string ⟨(strD A2).toArray⟩ ∧ hs = [p0] ∧
  ∃ post, Meets P 37 [.slice (some ⟨b0, 2, none⟩) 16 16] [rowHP b0 true (.bool q0 :: (.int .i64 x0 :: (List.append (segCells .u8 16 A0) ([v0.v]))))] post ∧
  ∀ x hs, post x hs → ∃ A3 : (Nat → Int), x = .string ⟨(strD A3).toArray⟩ ∧ hs = [rowHP b0 true (.bool q0 :: (.int .i64 x0 :: (List.append (segCells .u8 16 A0) ([v0.v]))))] ∧
  ∃ post, Meets P 37 [v0.v] [sliHP false 5 1 v0.v (Int.toNat x1) (tabL (Int.toNat x1) [colI .u8 1 A1])] post ∧
  ∀ x hs, post x hs → ∃ A4 : (Nat → Int), x = .string ⟨(strD A4).toArray⟩ ∧ hs = [sliHP false 5 1 v0.v (Int.toNat x1) (tabL (Int.toNat x1) [colI .u8 1 A1])] ∧
  ∀ b1 : Nat, ∃ post, Meets P 38 [.slice (some ⟨b1, 0, none⟩) 4 4, .string ⟨#[32]⟩] [rowHP b1 true ([.string ⟨#[121, 101, 115]⟩, .string ⟨(strD A2).toArray⟩, .string ⟨(strD A3).toArray⟩, .string ⟨(strD A4).toArray⟩])] post ∧
  ∀ x hs, post x hs → ∃ A5 : (Nat → Int), x = .string ⟨(strD A5).toArray⟩ ∧ hs = [rowHP b1 true ([.string ⟨#[121, 101, 115]⟩, .string ⟨(strD A2).toArray⟩, .string ⟨(strD A3).toArray⟩, .string ⟨(strD A4).toArray⟩])] ∧
  Post (.string ⟨(strD A5).toArray⟩) []) (
  ∃ post, Meets P 35 [.int .i64 x0] [p0] post ∧
  ∀ x hs, post x hs → ∃ A2 : (Nat → Int), x = .string ⟨(strD A2).toArray⟩ ∧ hs = [p0] ∧
  ∃ post, Meets P 37 [.slice (some ⟨b0, 2, none⟩) 16 16] [rowHP b0 true (.bool q0 :: (.int .i64 x0 :: (List.append (segCells .u8 16 A0) ([v0.v]))))] post ∧
  ∀ x hs, post x hs → ∃ A3 : (Nat → Int), x = .string ⟨(strD A3).toArray⟩ ∧ hs = [rowHP b0 true (.bool q0 :: (.int .i64 x0 :: (List.append (segCells .u8 16 A0) ([v0.v]))))] ∧
  ∃ post, Meets P 37 [v0.v] [sliHP false 5 1 v0.v (Int.toNat x1) (tabL (Int.toNat x1) [colI .u8 1 A1])] post ∧
  ∀ x hs, post x hs → ∃ A4 : (Nat → Int), x = .string ⟨(strD A4).toArray⟩ ∧ hs = [sliHP false 5 1 v0.v (Int.toNat x1) (tabL (Int.toNat x1) [colI .u8 1 A1])] ∧
  ∀ b1 : Nat, ∃ post, Meets P 38 [.slice (some ⟨b1, 0, none⟩) 4 4, .string ⟨#[32]⟩] [rowHP b1 true ([.string ⟨#[110, 111]⟩, .string ⟨(strD A2).toArray⟩, .string ⟨(strD A3).toArray⟩, .string ⟨(strD A4).toArray⟩])] post ∧
  ∀ x hs, post x hs → ∃ A5 : (Nat → Int), x = .string ⟨(strD A5).toArray⟩ ∧ hs = [rowHP b1 true ([.string ⟨#[110, 111]⟩, .string ⟨(strD A2).toArray⟩, .string ⟨(strD A3).toArray⟩, .string ⟨(strD A4).toArray⟩])] ∧
  Post (.string ⟨(strD A5).toArray⟩) [])
theorem vc_tell (P : Program) (Post : Value → List HP → Prop) (x0 : Int) (x1 : Int) (A0 : Nat → Int) (A1 : Nat → Int) (q0 : Bool) (v0 : V1) (p0 : HP) (L : Nat → LC) : VC P (fun v _ => Post v []) fm_tell { iv := [x0, x1], av := [A0, A1], bo := [q0], bv := [], vv := [v0], pv := [p0] } L = st_tell P Post x0 x1 A0 A1 q0 v0 p0 := by kernel_rfl
theorem run_tell : runF cxT 19 ([Go.RX.SV.agg [Go.RX.SV.bool (Go.RX.BE.var 0), Go.RX.SV.int (Go.IntKind.i64) (Go.RX.E.var 0), Go.RX.SV.seg (Go.IntKind.u8) 16 (Go.RX.E.avar 0), Go.RX.SV.vv 0]]) ([Go.RX.Ck.abs 0, Go.RX.Ck.sli false 0 5 1 (Go.RX.E.var 1) [{ ck := Go.RX.CK.int (Go.IntKind.u8), w := 1, a := Go.RX.E.avar 1 }]]) ({ b := 0, v := 1, i := 2, a := 2, bo := 1, p := 1, r := 0 }) Tryz.f19 = fm_tell := rfl
noncomputable def fm_rtell : F := runF cxT 20 ([Go.RX.SV.agg [Go.RX.SV.bool (Go.RX.BE.var 0), Go.RX.SV.int (Go.IntKind.i64) (Go.RX.E.var 0), Go.RX.SV.seg (Go.IntKind.u8) 16 (Go.RX.E.avar 0), Go.RX.SV.vv 0]]) ([Go.RX.Ck.sli false 0 5 1 (Go.RX.E.var 1) [{ ck := Go.RX.CK.int (Go.IntKind.u8), w := 1, a := Go.RX.E.avar 1 }]]) ({ b := 0, v := 1, i := 2, a := 2, bo := 1, p := 0, r := 0 }) Tryz.f20
def st_rtell (P : Program) (Post : Value → List HP → Prop) (x0 : Int) (x1 : Int) (A0 : Nat → Int) (A1 : Nat → Int) (q0 : Bool) (v0 : V1) : Prop :=
∀ _ : Nat, Fork (q0 = true) (
  ∃ (I0x2 : Ext → Prop) (m0x2 : Ext → Nat), (∃ v2 : V1, ∃ x2 : Int, ∃ x3 : Int, ∃ A2 : (Nat → Int), x2 = 0 ∧ v2 = (⟨.slice none 0 0, rfl⟩ : V1) ∧ v2 = (⟨.slice none 0 0, rfl⟩ : V1) ∧ x3 = 0 ∧ (∀ j, j < (Int.toNat x3) → A2 j = (fun _ => 0) j) ∧ I0x2 ⟨[], [v2], [x2, x3], [A2], [], [], []⟩) ∧
  ∀ v2 : V1, ∀ x2 : Int, ∀ x3 : Int, ∀ A2 : (Nat → Int), I0x2 ⟨[], [v2], [x2, x3], [A2], [], [], []⟩ →
    Fork (x2 < 16) (
      Need (0 ≤ x2) (
      ∀ _ : Nat, Need (0 ≤ x3) (
      Need (((x3 + 1) * 1) ≤ 140737488355328) (
      ∀ v3 : V1, Need ((-9223372036854775808) ≤ (x2 + 1)) (
      Need ((x2 + 1) ≤ 9223372036854775807) (
      ∃ v2' : V1, ∃ x2' : Int, ∃ x3' : Int, ∃ A2' : (Nat → Int), x2' = (x2 + 1) ∧ v2' = v3 ∧ v2' = v3 ∧ x3' = (x3 + 1) ∧ (∀ j, j < (Int.toNat x3') → A2' j = (updF A2 (Int.toNat x3) (A0 (Int.toNat x2))) j) ∧ I0x2 ⟨[], [v2'], [x2', x3'], [A2'], [], [], []⟩ ∧ m0x2 ⟨[], [v2'], [x2', x3'], [A2'], [], [], []⟩ < m0x2 ⟨[], [v2], [x2, x3], [A2], [], [], []⟩)))))) (
      ∃ post, Meets P 42 [.int .i64 x0] [] post ∧
      ∀ x hs, post x hs → ∃ A3 : (Nat → Int), x = .string ⟨(strD A3).toArray⟩ ∧ hs = [] ∧
      Need (0 ≤ (A3 0)) (
      Need ((4 + (A3 0)) ≤ 9223372036854775807) (
      Need (0 ≤ (4 + (A3 0))) (
      Need (((4 + (A3 0)) + 1) ≤ 9223372036854775807) (
      ∃ post, Meets P 44 [v2.v] [sliHP true 5 1 v2.v (Int.toNat x3) (tabL (Int.toNat x3) [colI .u8 1 A2])] post ∧
      ∀ x hs, post x hs → ∃ A4 : (Nat → Int), x = .string ⟨(strD A4).toArray⟩ ∧ hs = [sliHP true 5 1 v2.v (Int.toNat x3) (tabL (Int.toNat x3) [colI .u8 1 A2])] ∧
      Need (0 ≤ ((4 + (A3 0)) + 1)) (
      Need (0 ≤ (A4 0)) (
      Need ((((4 + (A3 0)) + 1) + (A4 0)) ≤ 9223372036854775807) (
      Need (0 ≤ (((4 + (A3 0)) + 1) + (A4 0))) (
      Need (((((4 + (A3 0)) + 1) + (A4 0)) + 1) ≤ 9223372036854775807) (
      ∃ post, Meets P 44 [v0.v] [sliHP false 5 1 v0.v (Int.toNat x1) (tabL (Int.toNat x1) [colI .u8 1 A1])] post ∧
      ∀ x hs, post x hs → ∃ A5 : (Nat → Int), x = .string ⟨(strD A5).toArray⟩ ∧ hs = [sliHP false 5 1 v0.v (Int.toNat x1) (tabL (Int.toNat x1) [colI .u8 1 A1])] ∧
      Need (0 ≤ ((((4 + (A3 0)) + 1) + (A4 0)) + 1)) (
      Need (0 ≤ (A5 0)) (
      Need ((((((4 + (A3 0)) + 1) + (A4 0)) + 1) + (A5 0)) ≤ 9223372036854775807) (
      Post (.string ⟨(strD (catF (catF (catF (catF (catF (rowLF [4, 121, 101, 115, 32]) A3) (rowLF [1, 32])) A4) (rowLF [1, 32])) A5)).toArray⟩) [])))))))))))))) (
  ∃ (I0x2 : Ext → Prop) (m0x2 : Ext → Nat), (∃ v2 : V1, ∃ x2 : Int, ∃ x3 : Int, ∃ A2 : (Nat → Int), x2 = 0 ∧ v2 = (⟨.slice none 0 0, rfl⟩ : V1) ∧ v2 = (⟨.slice none 0 0, rfl⟩ : V1) ∧ x3 = 0 ∧ (∀ j, j < (Int.toNat x3) → A2 j = (fun _ => 0) j) ∧ I0x2 ⟨[], [v2], [x2, x3], [A2], [], [], []⟩) ∧
  ∀ v2 : V1, ∀ x2 : Int, ∀ x3 : Int, ∀ A2 : (Nat → Int), I0x2 ⟨[], [v2], [x2, x3], [A2], [], [], []⟩ →
    Fork (x2 < 16) (
      Need (0 ≤ x2) (
      ∀ _ : Nat, Need (0 ≤ x3) (
      Need (((x3 + 1) * 1) ≤ 140737488355328) (
      ∀ v3 : V1, Need ((-9223372036854775808) ≤ (x2 + 1)) (
      Need ((x2 + 1) ≤ 9223372036854775807) (
      ∃ v2' : V1, ∃ x2' : Int, ∃ x3' : Int, ∃ A2' : (Nat → Int), x2' = (x2 + 1) ∧ v2' = v3 ∧ v2' = v3 ∧ x3' = (x3 + 1) ∧ (∀ j, j < (Int.toNat x3') → A2' j = (updF A2 (Int.toNat x3) (A0 (Int.toNat x2))) j) ∧ I0x2 ⟨[], [v2'], [x2', x3'], [A2'], [], [], []⟩ ∧ m0x2 ⟨[], [v2'], [x2', x3'], [A2'], [], [], []⟩ < m0x2 ⟨[], [v2], [x2, x3], [A2], [], [], []⟩)))))) (
      ∃ post, Meets P 42 [.int .i64 x0] [] post ∧
      ∀ x hs, post x hs → ∃ A3 : (Nat → Int), x = .string ⟨(strD A3).toArray⟩ ∧ hs = [] ∧
      Need (0 ≤ (A3 0)) (
      Need ((3 + (A3 0)) ≤ 9223372036854775807) (
      Need (0 ≤ (3 + (A3 0))) (
      Need (((3 + (A3 0)) + 1) ≤ 9223372036854775807) (
      ∃ post, Meets P 44 [v2.v] [sliHP true 5 1 v2.v (Int.toNat x3) (tabL (Int.toNat x3) [colI .u8 1 A2])] post ∧
      ∀ x hs, post x hs → ∃ A4 : (Nat → Int), x = .string ⟨(strD A4).toArray⟩ ∧ hs = [sliHP true 5 1 v2.v (Int.toNat x3) (tabL (Int.toNat x3) [colI .u8 1 A2])] ∧
      Need (0 ≤ ((3 + (A3 0)) + 1)) (
      Need (0 ≤ (A4 0)) (
      Need ((((3 + (A3 0)) + 1) + (A4 0)) ≤ 9223372036854775807) (
      Need (0 ≤ (((3 + (A3 0)) + 1) + (A4 0))) (
      Need (((((3 + (A3 0)) + 1) + (A4 0)) + 1) ≤ 9223372036854775807) (
      ∃ post, Meets P 44 [v0.v] [sliHP false 5 1 v0.v (Int.toNat x1) (tabL (Int.toNat x1) [colI .u8 1 A1])] post ∧
      ∀ x hs, post x hs → ∃ A5 : (Nat → Int), x = .string ⟨(strD A5).toArray⟩ ∧ hs = [sliHP false 5 1 v0.v (Int.toNat x1) (tabL (Int.toNat x1) [colI .u8 1 A1])] ∧
      Need (0 ≤ ((((3 + (A3 0)) + 1) + (A4 0)) + 1)) (
      Need (0 ≤ (A5 0)) (
      Need ((((((3 + (A3 0)) + 1) + (A4 0)) + 1) + (A5 0)) ≤ 9223372036854775807) (
      Post (.string ⟨(strD (catF (catF (catF (catF (catF (rowLF [3, 110, 111, 32]) A3) (rowLF [1, 32])) A4) (rowLF [1, 32])) A5)).toArray⟩) []))))))))))))))
theorem vc_rtell (P : Program) (Post : Value → List HP → Prop) (x0 : Int) (x1 : Int) (A0 : Nat → Int) (A1 : Nat → Int) (q0 : Bool) (v0 : V1) (L : Nat → LC) : VC P (fun v _ => Post v []) fm_rtell { iv := [x0, x1], av := [A0, A1], bo := [q0], bv := [], vv := [v0] } L = st_rtell P Post x0 x1 A0 A1 q0 v0 := by kernel_rfl
theorem run_rtell : runF cxT 20 ([Go.RX.SV.agg [Go.RX.SV.bool (Go.RX.BE.var 0), Go.RX.SV.int (Go.IntKind.i64) (Go.RX.E.var 0), Go.RX.SV.seg (Go.IntKind.u8) 16 (Go.RX.E.avar 0), Go.RX.SV.vv 0]]) ([Go.RX.Ck.sli false 0 5 1 (Go.RX.E.var 1) [{ ck := Go.RX.CK.int (Go.IntKind.u8), w := 1, a := Go.RX.E.avar 1 }]]) ({ b := 0, v := 1, i := 2, a := 2, bo := 1, p := 0, r := 0 }) Tryz.f20 = fm_rtell := rfl
end Go.RX.Sq
