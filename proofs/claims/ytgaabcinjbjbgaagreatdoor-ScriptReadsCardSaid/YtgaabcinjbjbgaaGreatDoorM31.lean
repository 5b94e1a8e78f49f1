/- Reading of moves, the program's side: what the functions leave to be shown (F D); printed by a program of ours (wip/tools). · Reading of moves, the document's side: what the functions leave to be shown (A N); printed by a program of ours (wip/tools). · What the executor is told of the calls and loops that AuditLines reaches. · AuditLines: what the functions leave to be shown; printed by a program of ours (wip/tools). · AuditLines: the document's numbers, in words. · Reading of moves: numbers in digits, plainly. · AuditLines: the document's reader of a number. · Reading of moves, the document's side: numbers, whole numbers, devices. -/
import Derived.Test.YtgaabcinjbjbgaaGreatDoorM27
import Derived.Test.YtgaabcinjbjbgaaGreatDoorM28
import Derived.Lib.ItoaNum
import Derived.IntWalk

namespace Go.RX.St
open Go.RX Go.Proofs
noncomputable def cxF : Ctx := { T := TT, FT := FT, callees := calleesF }
noncomputable def cxD : Ctx := { T := TT, FT := FT, callees := calleesD }
set_option maxRecDepth 100000
noncomputable def fm_fit8 : F := runF cxF 148 ([SV.strE (E.avar 0), SV.int (Go.IntKind.i64) (E.lit 8)]) ([Ck.abs 0]) ({ b := 0, v := 0, i := 0, a := 1, bo := 0, p := 1, r := 0 }) Tryz.f148
def st_fit8 (P : Program) (Post : Value → List HP → Prop) (A0 : Nat → Int) (p0 : HP) : Prop :=
 ∃ post, Meets P 88 [.string ⟨(strD A0).toArray⟩, .int .i64 10, .int .i64 8] [p0] post ∧
 ∀ x hs, post x hs → ∃ v0 : V1, ∃ x0 : Int, ∃ q0 : Bool, x = .tuple #[.int .u64 x0, (if q0 then ifaceOf v0.v else .nilIface)] ∧ hs = [p0] ∧
 Fork (¬ (q0 = true)) (
 ∃ post, Meets P 71 [.int .u64 x0, .int .i64 10] [p0] post ∧
 ∀ x hs, post x hs → ∃ A1 : (Nat → Int), x = .string ⟨(strD A1).toArray⟩ ∧ hs = [p0] ∧
 Post (.tuple #[.int .u8 (IntKind.wrap .u8 x0), .bool (strD A1 == strD A0)]) []) (
 Post (.tuple #[.int .u8 (IntKind.wrap .u8 x0), .bool false]) [])
theorem vc_fit8 (P : Program) (Post : Value → List HP → Prop) (A0 : Nat → Int) (p0 : HP) (L : Nat → LC) : VC P (fun v _ => Post v []) fm_fit8 { iv := [], av := [A0], bo := [], bv := [], vv := [], pv := [p0] } L = st_fit8 P Post A0 p0 := by kernel_rfl
theorem run_fit8 : runF cxF 148 ([SV.strE (E.avar 0), SV.int (Go.IntKind.i64) (E.lit 8)]) ([Ck.abs 0]) ({ b := 0, v := 0, i := 0, a := 1, bo := 0, p := 1, r := 0 }) Tryz.f148 = fm_fit8 := rfl
noncomputable def fm_fit64 : F := runF cxF 117 ([SV.strE (E.avar 0), SV.int (Go.IntKind.i64) (E.lit 64)]) ([Ck.abs 0]) ({ b := 0, v := 0, i := 0, a := 1, bo := 0, p := 1, r := 0 }) Tryz.f117
def st_fit64 (P : Program) (Post : Value → List HP → Prop) (A0 : Nat → Int) (p0 : HP) : Prop :=
 ∃ post, Meets P 88 [.string ⟨(strD A0).toArray⟩, .int .i64 10, .int .i64 64] [p0] post ∧
 ∀ x hs, post x hs → ∃ v0 : V1, ∃ x0 : Int, ∃ q0 : Bool, x = .tuple #[.int .u64 x0, (if q0 then ifaceOf v0.v else .nilIface)] ∧ hs = [p0] ∧
 Fork (¬ (q0 = true)) (
 ∃ post, Meets P 71 [.int .u64 x0, .int .i64 10] [p0] post ∧
 ∀ x hs, post x hs → ∃ A1 : (Nat → Int), x = .string ⟨(strD A1).toArray⟩ ∧ hs = [p0] ∧
 Post (.tuple #[.int .u64 x0, .bool (strD A1 == strD A0)]) []) (
 Post (.tuple #[.int .u64 x0, .bool false]) [])
theorem vc_fit64 (P : Program) (Post : Value → List HP → Prop) (A0 : Nat → Int) (p0 : HP) (L : Nat → LC) : VC P (fun v _ => Post v []) fm_fit64 { iv := [], av := [A0], bo := [], bv := [], vv := [], pv := [p0] } L = st_fit64 P Post A0 p0 := by kernel_rfl
theorem run_fit64 : runF cxF 117 ([SV.strE (E.avar 0), SV.int (Go.IntKind.i64) (E.lit 64)]) ([Ck.abs 0]) ({ b := 0, v := 0, i := 0, a := 1, bo := 0, p := 1, r := 0 }) Tryz.f117 = fm_fit64 := rfl
noncomputable def fm_pdev : F := runF cxD 115 ([SV.strE (E.avar 0)]) ([Ck.abs 0]) ({ b := 0, v := 0, i := 0, a := 1, bo := 0, p := 1, r := 0 }) Tryz.f115
def st_pdev (P : Program) (Post : Value → List HP → Prop) (A0 : Nat → Int) (p0 : HP) : Prop :=
 ∀ _ : Nat, ∃ post, Meets P 56 [.string ⟨(strD A0).toArray⟩, .string ⟨#[47]⟩] [p0] post ∧
 ∀ x hs, post x hs → ∃ A1 : (Nat → Int), ∃ A2 : (Nat → Int), ∃ q0 : Bool, x = .tuple #[.string ⟨(strD A1).toArray⟩, .string ⟨(strD A2).toArray⟩, .bool q0] ∧ hs = [p0] ∧
 ∃ post, Meets P 148 [.string ⟨(strD A1).toArray⟩, .int .i64 8] [p0] post ∧
 ∀ x hs, post x hs → ∃ x0 : Int, ∃ q1 : Bool, x = .tuple #[.int .u8 x0, .bool q1] ∧ hs = [p0] ∧
 ∃ post, Meets P 148 [.string ⟨(strD A2).toArray⟩, .int .i64 8] [p0] post ∧
 ∀ x hs, post x hs → ∃ x1 : Int, ∃ q2 : Bool, x = .tuple #[.int .u8 x1, .bool q2] ∧ hs = [p0] ∧
 Post (.tuple #[.agg #[.int .u8 x0, .int .u8 x1], .bool ((q0 && q1) && q2)]) []
theorem vc_pdev (P : Program) (Post : Value → List HP → Prop) (A0 : Nat → Int) (p0 : HP) (L : Nat → LC) : VC P (fun v _ => Post v []) fm_pdev { iv := [], av := [A0], bo := [], bv := [], vv := [], pv := [p0] } L = st_pdev P Post A0 p0 := by kernel_rfl
theorem run_pdev : runF cxD 115 ([SV.strE (E.avar 0)]) ([Ck.abs 0]) ({ b := 0, v := 0, i := 0, a := 1, bo := 0, p := 1, r := 0 }) Tryz.f115 = fm_pdev := rfl
end Go.RX.St

namespace Go.RX.Su
open Go.RX Go.Proofs
noncomputable def cxA : Ctx := { T := TT, FT := FT, loops := loops }
noncomputable def cxN : Ctx := { T := TT, FT := FT, loops := loops, callees := calleesN }
set_option maxRecDepth 100000
noncomputable def fm_rnum : F := runF cxA 67 ([SV.strE (E.avar 0), SV.int (Go.IntKind.u64) (E.var 0)]) ([]) ({ b := 0, v := 0, i := 1, a := 1, bo := 0, p := 0, r := 0 }) Tryz.f67
def st_rnum (_ : Program) (Post : Value → List HP → Prop) (x0 : Int) (A0 : Nat → Int) : Prop :=
 Need (0 ≤ (A0 0)) (
 Need (((A0 0) = 0) ∨ (0 ≤ (A0 0))) (
 Need ((((A0 0) = 0) ∨ (20 < (A0 0))) ∨ (0 < (A0 0))) (
 Need ((¬ ((¬ (((A0 0) = 0) ∨ (20 < (A0 0)))) ∧ (((sbyF A0) 0) = 48))) ∨ (0 ≤ (A0 0))) (
 Fork ((((A0 0) = 0) ∨ (20 < (A0 0))) ∨ ((((sbyF A0) 0) = 48) ∧ (1 < (A0 0)))) (
 Post (.tuple #[.int .u64 0, .bool false]) []) (
 ∃ (I0x2 : Ext → Prop) (m0x2 : Ext → Nat), (∃ x1 : Int, ∃ x2 : Int, x1 = 0 ∧ x2 = 0 ∧ I0x2 ⟨[], [], [x1, x2], [], [], [], []⟩) ∧
 ∀ x1 : Int, ∀ x2 : Int, I0x2 ⟨[], [], [x1, x2], [], [], [], []⟩ →
 Need (0 ≤ (A0 0)) (
 Fork (x2 < (A0 0)) (
 Need (0 ≤ x2) (
 Need ((((sbyF A0) (Int.toNat x2)) < 48) ∨ (0 ≤ x2)) (
 Need ((((sbyF A0) (Int.toNat x2)) < 48) ∨ (x2 < (A0 0))) (
 Fork ((((sbyF A0) (Int.toNat x2)) < 48) ∨ (57 < ((sbyF A0) (Int.toNat x2)))) (
 Post (.tuple #[.int .u64 0, .bool false]) []) (
 Need ((x0 < (IntKind.wrap .u64 ((IntKind.wrap .u64 ((sbyF A0) (Int.toNat x2))) - 48))) ∨ (true = true)) (
 Fork ((x0 < (IntKind.wrap .u64 ((IntKind.wrap .u64 ((sbyF A0) (Int.toNat x2))) - 48))) ∨ ((IntKind.wrap .u64 (iop .quo .u64 (IntKind.wrap .u64 (x0 - (IntKind.wrap .u64 ((IntKind.wrap .u64 ((sbyF A0) (Int.toNat x2))) - 48)))) 10)) < x1)) (
 Post (.tuple #[.int .u64 0, .bool false]) []) (
 Need ((-9223372036854775808) ≤ (x2 + 1)) (
 Need ((x2 + 1) ≤ 9223372036854775807) (
 ∃ x1' : Int, ∃ x2' : Int, x1' = (IntKind.wrap .u64 ((IntKind.wrap .u64 (10 * x1)) + (IntKind.wrap .u64 ((IntKind.wrap .u64 ((sbyF A0) (Int.toNat x2))) - 48)))) ∧ x2' = (x2 + 1) ∧ I0x2 ⟨[], [], [x1', x2'], [], [], [], []⟩ ∧ m0x2 ⟨[], [], [x1', x2'], [], [], [], []⟩ < m0x2 ⟨[], [], [x1, x2], [], [], [], []⟩))))))))) (
 Post (.tuple #[.int .u64 x1, .bool true]) [])))))))
theorem vc_rnum (P : Program) (Post : Value → List HP → Prop) (x0 : Int) (A0 : Nat → Int) (L : Nat → LC) : VC P (fun v _ => Post v []) fm_rnum { iv := [x0], av := [A0], bo := [], bv := [], vv := [] } L = st_rnum P Post x0 A0 := by kernel_rfl
theorem run_rnum : runF cxA 67 ([SV.strE (E.avar 0), SV.int (Go.IntKind.u64) (E.var 0)]) ([]) ({ b := 0, v := 0, i := 1, a := 1, bo := 0, p := 0, r := 0 }) Tryz.f67 = fm_rnum := rfl
noncomputable def fm_runhex : F := runF cxA 68 ([SV.strE (E.avar 0)]) ([]) ({ b := 0, v := 0, i := 0, a := 1, bo := 0, p := 0, r := 0 }) Tryz.f68
def st_runhex (_ : Program) (Post : Value → List HP → Prop) (A0 : Nat → Int) : Prop :=
 Fork (strD A0 = strD (rowLF [1, 45])) (
 Post (.tuple #[.slice none 0 0, .bool true]) []) (
 Need (0 ≤ (A0 0)) (
 Need (((A0 0) = 0) ∨ (0 ≤ (A0 0))) (
 Need (((A0 0) = 0) ∨ (true = true)) (
 Fork (((A0 0) = 0) ∨ ((iop .rem .i64 (A0 0) 2) = 1)) (
 Post (.tuple #[.slice none 0 0, .bool false]) []) (
 ∃ (I0x4 : Ext → Prop) (m0x4 : Ext → Nat), (∃ v1 : V1, ∃ x0 : Int, ∃ x1 : Int, ∃ x2 : Int, ∃ A1 : (Nat → Int), x0 = 0 ∧ x1 = 0 ∧ v1 = (⟨.slice none 0 0, rfl⟩ : V1) ∧ v1 = (⟨.slice none 0 0, rfl⟩ : V1) ∧ x2 = 0 ∧ (∀ j, j < (Int.toNat x2) → A1 j = (fun _ => 0) j) ∧ I0x4 ⟨[], [v1], [x0, x1, x2], [A1], [], [], []⟩) ∧
 ∀ v1 : V1, ∀ x0 : Int, ∀ x1 : Int, ∀ x2 : Int, ∀ A1 : (Nat → Int), I0x4 ⟨[], [v1], [x0, x1, x2], [A1], [], [], []⟩ →
 Need (0 ≤ (A0 0)) (
 Fork (x0 < (A0 0)) (
 Need (0 ≤ x0) (
 Need ((¬ (48 ≤ ((sbyF A0) (Int.toNat x0)))) ∨ (0 ≤ x0)) (
 Need ((¬ (48 ≤ ((sbyF A0) (Int.toNat x0)))) ∨ (x0 < (A0 0))) (
 Fork ((48 ≤ ((sbyF A0) (Int.toNat x0))) ∧ (((sbyF A0) (Int.toNat x0)) ≤ 57)) (
 Fork ((iop .rem .i64 x0 2) = 1) (
 ∀ _ : Nat, Need (0 ≤ x2) (
 Need (((x2 + 1) * 1) ≤ 140737488355328) (
 ∀ v2 : V1, Need ((-9223372036854775808) ≤ (x0 + 1)) (
 Need ((x0 + 1) ≤ 9223372036854775807) (
 ∃ v1' : V1, ∃ x0' : Int, ∃ x1' : Int, ∃ x2' : Int, ∃ A1' : (Nat → Int), x0' = (x0 + 1) ∧ x1' = 0 ∧ v1' = v2 ∧ v1' = v2 ∧ x2' = (x2 + 1) ∧ (∀ j, j < (Int.toNat x2') → A1' j = (updF A1 (Int.toNat x2) (IntKind.wrap .u8 ((IntKind.wrap .u8 ((IntKind.wrap .u8 (16 * x1)) + ((sbyF A0) (Int.toNat x0)))) - 48))) j) ∧ I0x4 ⟨[], [v1'], [x0', x1', x2'], [A1'], [], [], []⟩ ∧ m0x4 ⟨[], [v1'], [x0', x1', x2'], [A1'], [], [], []⟩ < m0x4 ⟨[], [v1], [x0, x1, x2], [A1], [], [], []⟩))))) (
 Need ((-9223372036854775808) ≤ (x0 + 1)) (
 Need ((x0 + 1) ≤ 9223372036854775807) (
 ∃ v1' : V1, ∃ x0' : Int, ∃ x1' : Int, ∃ x2' : Int, ∃ A1' : (Nat → Int), x0' = (x0 + 1) ∧ x1' = (IntKind.wrap .u8 ((IntKind.wrap .u8 ((IntKind.wrap .u8 (16 * x1)) + ((sbyF A0) (Int.toNat x0)))) - 48)) ∧ v1' = v1 ∧ v1' = v1 ∧ x2' = x2 ∧ (∀ j, j < (Int.toNat x2') → A1' j = A1 j) ∧ I0x4 ⟨[], [v1'], [x0', x1', x2'], [A1'], [], [], []⟩ ∧ m0x4 ⟨[], [v1'], [x0', x1', x2'], [A1'], [], [], []⟩ < m0x4 ⟨[], [v1], [x0, x1, x2], [A1], [], [], []⟩)))) (
 Need ((¬ (97 ≤ ((sbyF A0) (Int.toNat x0)))) ∨ (0 ≤ x0)) (
 Need ((¬ (97 ≤ ((sbyF A0) (Int.toNat x0)))) ∨ (x0 < (A0 0))) (
 Fork ((97 ≤ ((sbyF A0) (Int.toNat x0))) ∧ (((sbyF A0) (Int.toNat x0)) ≤ 102)) (
 Fork ((iop .rem .i64 x0 2) = 1) (
 ∀ _ : Nat, Need (0 ≤ x2) (
 Need (((x2 + 1) * 1) ≤ 140737488355328) (
 ∀ v2 : V1, Need ((-9223372036854775808) ≤ (x0 + 1)) (
 Need ((x0 + 1) ≤ 9223372036854775807) (
 ∃ v1' : V1, ∃ x0' : Int, ∃ x1' : Int, ∃ x2' : Int, ∃ A1' : (Nat → Int), x0' = (x0 + 1) ∧ x1' = 0 ∧ v1' = v2 ∧ v1' = v2 ∧ x2' = (x2 + 1) ∧ (∀ j, j < (Int.toNat x2') → A1' j = (updF A1 (Int.toNat x2) (IntKind.wrap .u8 ((IntKind.wrap .u8 ((IntKind.wrap .u8 (16 * x1)) + ((sbyF A0) (Int.toNat x0)))) - 87))) j) ∧ I0x4 ⟨[], [v1'], [x0', x1', x2'], [A1'], [], [], []⟩ ∧ m0x4 ⟨[], [v1'], [x0', x1', x2'], [A1'], [], [], []⟩ < m0x4 ⟨[], [v1], [x0, x1, x2], [A1], [], [], []⟩))))) (
 Need ((-9223372036854775808) ≤ (x0 + 1)) (
 Need ((x0 + 1) ≤ 9223372036854775807) (
 ∃ v1' : V1, ∃ x0' : Int, ∃ x1' : Int, ∃ x2' : Int, ∃ A1' : (Nat → Int), x0' = (x0 + 1) ∧ x1' = (IntKind.wrap .u8 ((IntKind.wrap .u8 ((IntKind.wrap .u8 (16 * x1)) + ((sbyF A0) (Int.toNat x0)))) - 87)) ∧ v1' = v1 ∧ v1' = v1 ∧ x2' = x2 ∧ (∀ j, j < (Int.toNat x2') → A1' j = A1 j) ∧ I0x4 ⟨[], [v1'], [x0', x1', x2'], [A1'], [], [], []⟩ ∧ m0x4 ⟨[], [v1'], [x0', x1', x2'], [A1'], [], [], []⟩ < m0x4 ⟨[], [v1], [x0, x1, x2], [A1], [], [], []⟩)))) (
 Post (.tuple #[.slice none 0 0, .bool false]) [sliHP true 5 1 v1.v (Int.toNat x2) (tabL (Int.toNat x2) [colI .u8 1 A1])])))))))) (
 Post (.tuple #[v1.v, .bool true]) [sliHP true 5 1 v1.v (Int.toNat x2) (tabL (Int.toNat x2) [colI .u8 1 A1])])))))))
theorem vc_runhex (P : Program) (Post : Value → List HP → Prop) (A0 : Nat → Int) (L : Nat → LC) : VC P Post fm_runhex { iv := [], av := [A0], bo := [], bv := [], vv := [] } L = st_runhex P Post A0 := by kernel_rfl
theorem run_runhex : runF cxA 68 ([SV.strE (E.avar 0)]) ([]) ({ b := 0, v := 0, i := 0, a := 1, bo := 0, p := 0, r := 0 }) Tryz.f68 = fm_runhex := rfl
noncomputable def fm_rwords : F := runF cxA 30 ([SV.strE (E.avar 0)]) ([]) ({ b := 0, v := 0, i := 0, a := 1, bo := 0, p := 0, r := 0 }) Tryz.f30
def st_rwords (_ : Program) (Post : Value → List HP → Prop) (A0 : Nat → Int) : Prop :=
 ∃ (I0x0 : Ext → Prop) (m0x0 : Ext → Nat), (∃ v1 : V1, ∃ x0 : Int, ∃ x1 : Int, ∃ x2 : Int, ∃ A1 : (Nat → Int), x0 = 0 ∧ x1 = (-1) ∧ v1 = (⟨.slice none 0 0, rfl⟩ : V1) ∧ v1 = (⟨.slice none 0 0, rfl⟩ : V1) ∧ x2 = 0 ∧ (A1 = (fun _ => 0)) ∧ I0x0 ⟨[], [v1], [x0, x1, x2], [A1], [], [], []⟩) ∧
 ∀ v1 : V1, ∀ x0 : Int, ∀ x1 : Int, ∀ x2 : Int, ∀ A1 : (Nat → Int), I0x0 ⟨[], [v1], [x0, x1, x2], [A1], [], [], []⟩ →
 Need (0 ≤ (A0 0)) (
 Fork (x0 ≤ (A0 0)) (
 Need ((¬ (x0 < (A0 0))) ∨ (0 ≤ x0)) (
 Need ((¬ (x0 < (A0 0))) ∨ (x0 < (A0 0))) (
 Need ((¬ ((x0 < (A0 0)) ∧ (¬ (((sbyF A0) (Int.toNat x0)) = 32)))) ∨ (0 ≤ x0)) (
 Need ((¬ ((x0 < (A0 0)) ∧ (¬ (((sbyF A0) (Int.toNat x0)) = 32)))) ∨ (x0 < (A0 0))) (
 Fork (((x0 < (A0 0)) ∧ (¬ (((sbyF A0) (Int.toNat x0)) = 32))) ∧ (¬ (((sbyF A0) (Int.toNat x0)) = 35))) (
 Fork (x1 < 0) (
 Need ((-9223372036854775808) ≤ (x0 + 1)) (
 Need ((x0 + 1) ≤ 9223372036854775807) (
 ∃ v1' : V1, ∃ x0' : Int, ∃ x1' : Int, ∃ x2' : Int, ∃ A1' : (Nat → Int), x0' = (x0 + 1) ∧ x1' = x0 ∧ v1' = v1 ∧ v1' = v1 ∧ x2' = x2 ∧ (A1' = A1) ∧ I0x0 ⟨[], [v1'], [x0', x1', x2'], [A1'], [], [], []⟩ ∧ m0x0 ⟨[], [v1'], [x0', x1', x2'], [A1'], [], [], []⟩ < m0x0 ⟨[], [v1], [x0, x1, x2], [A1], [], [], []⟩))) (
 Need ((-9223372036854775808) ≤ (x0 + 1)) (
 Need ((x0 + 1) ≤ 9223372036854775807) (
 ∃ v1' : V1, ∃ x0' : Int, ∃ x1' : Int, ∃ x2' : Int, ∃ A1' : (Nat → Int), x0' = (x0 + 1) ∧ x1' = x1 ∧ v1' = v1 ∧ v1' = v1 ∧ x2' = x2 ∧ (A1' = A1) ∧ I0x0 ⟨[], [v1'], [x0', x1', x2'], [A1'], [], [], []⟩ ∧ m0x0 ⟨[], [v1'], [x0', x1', x2'], [A1'], [], [], []⟩ < m0x0 ⟨[], [v1], [x0, x1, x2], [A1], [], [], []⟩)))) (
 Fork (0 ≤ x1) (
 Need (x1 ≤ x0) (
 ∀ b0 : Nat, Need (0 ≤ x2) (
 Need (((x2 + 1) * 16) ≤ 140737488355328) (
 ∀ v2 : V1, Need ((¬ (x0 < (A0 0))) ∨ (0 ≤ x0)) (
 Need ((¬ (x0 < (A0 0))) ∨ (x0 < (A0 0))) (
 Fork ((x0 < (A0 0)) ∧ (((sbyF A0) (Int.toNat x0)) = 35)) (
 Post (v2.v) [sliHP true 9 1 v2.v (Int.toNat (x2 + 1)) (tabL (Int.toNat (x2 + 1)) [colV 1 (fun j => .string ⟨(strD (at2F (put2F A1 (Int.toNat x2) (updF (shiftF A0 (Int.toNat x1)) 0 (x0 - x1))) j)).toArray⟩)]), rowHP b0 true ([.string ⟨(strD (updF (shiftF A0 (Int.toNat x1)) 0 (x0 - x1))).toArray⟩])]) (
 Need ((-9223372036854775808) ≤ (x0 + 1)) (
 Need ((x0 + 1) ≤ 9223372036854775807) (
 ∃ v1' : V1, ∃ x0' : Int, ∃ x1' : Int, ∃ x2' : Int, ∃ A1' : (Nat → Int), x0' = (x0 + 1) ∧ x1' = (-1) ∧ v1' = v2 ∧ v1' = v2 ∧ x2' = (x2 + 1) ∧ (A1' = (put2F A1 (Int.toNat x2) (updF (shiftF A0 (Int.toNat x1)) 0 (x0 - x1)))) ∧ I0x0 ⟨[], [v1'], [x0', x1', x2'], [A1'], [], [], []⟩ ∧ m0x0 ⟨[], [v1'], [x0', x1', x2'], [A1'], [], [], []⟩ < m0x0 ⟨[], [v1], [x0, x1, x2], [A1], [], [], []⟩))))))))) (
 Need ((¬ (x0 < (A0 0))) ∨ (0 ≤ x0)) (
 Need ((¬ (x0 < (A0 0))) ∨ (x0 < (A0 0))) (
 Fork ((x0 < (A0 0)) ∧ (((sbyF A0) (Int.toNat x0)) = 35)) (
 Post (v1.v) [sliHP true 9 1 v1.v (Int.toNat x2) (tabL (Int.toNat x2) [colV 1 (fun j => .string ⟨(strD (at2F A1 j)).toArray⟩)])]) (
 Need ((-9223372036854775808) ≤ (x0 + 1)) (
 Need ((x0 + 1) ≤ 9223372036854775807) (
 ∃ v1' : V1, ∃ x0' : Int, ∃ x1' : Int, ∃ x2' : Int, ∃ A1' : (Nat → Int), x0' = (x0 + 1) ∧ x1' = (-1) ∧ v1' = v1 ∧ v1' = v1 ∧ x2' = x2 ∧ (A1' = A1) ∧ I0x0 ⟨[], [v1'], [x0', x1', x2'], [A1'], [], [], []⟩ ∧ m0x0 ⟨[], [v1'], [x0', x1', x2'], [A1'], [], [], []⟩ < m0x0 ⟨[], [v1], [x0, x1, x2], [A1], [], [], []⟩)))))))))))) (
 Post (v1.v) [sliHP true 9 1 v1.v (Int.toNat x2) (tabL (Int.toNat x2) [colV 1 (fun j => .string ⟨(strD (at2F A1 j)).toArray⟩)])]))
theorem vc_rwords (P : Program) (Post : Value → List HP → Prop) (A0 : Nat → Int) (L : Nat → LC) : VC P Post fm_rwords { iv := [], av := [A0], bo := [], bv := [], vv := [] } L = st_rwords P Post A0 := by kernel_rfl
theorem run_rwords : runF cxA 30 ([SV.strE (E.avar 0)]) ([]) ({ b := 0, v := 0, i := 0, a := 1, bo := 0, p := 0, r := 0 }) Tryz.f30 = fm_rwords := rfl
noncomputable def fm_rwhole : F := runF cxN 66 ([SV.strE (E.avar 0)]) ([]) ({ b := 0, v := 0, i := 0, a := 1, bo := 0, p := 0, r := 0 }) Tryz.f66
def st_rwhole (P : Program) (Post : Value → List HP → Prop) (A0 : Nat → Int) : Prop :=
 Need (0 ≤ (A0 0)) (
 Need ((¬ (0 < (A0 0))) ∨ (0 < (A0 0))) (
 Fork ((0 < (A0 0)) ∧ (((sbyF A0) 0) = 45)) (
 Need (1 ≤ (A0 0)) (
 ∃ post, Meets P 67 [.string ⟨(strD (updF (shiftF A0 1) 0 ((A0 0) - 1))).toArray⟩, .int .u64 9223372036854775808] [] post ∧
 ∀ x hs, post x hs → ∃ x0 : Int, ∃ q0 : Bool, x = .tuple #[.int .u64 x0, .bool q0] ∧ hs = [] ∧
 Post (.tuple #[.int .i64 (IntKind.wrap .i64 (IntKind.wrap .u64 (0 - x0))), .bool (q0 && (decide (0 < x0)))]) [])) (
 ∃ post, Meets P 67 [.string ⟨(strD A0).toArray⟩, .int .u64 9223372036854775807] [] post ∧
 ∀ x hs, post x hs → ∃ x0 : Int, ∃ q0 : Bool, x = .tuple #[.int .u64 x0, .bool q0] ∧ hs = [] ∧
 Need ((-9223372036854775808) ≤ x0) (
 Need (x0 ≤ 9223372036854775807) (
 Post (.tuple #[.int .i64 x0, .bool q0]) [])))))
theorem vc_rwhole (P : Program) (Post : Value → List HP → Prop) (A0 : Nat → Int) (L : Nat → LC) : VC P (fun v _ => Post v []) fm_rwhole { iv := [], av := [A0], bo := [], bv := [], vv := [] } L = st_rwhole P Post A0 := by kernel_rfl
theorem run_rwhole : runF cxN 66 ([SV.strE (E.avar 0)]) ([]) ({ b := 0, v := 0, i := 0, a := 1, bo := 0, p := 0, r := 0 }) Tryz.f66 = fm_rwhole := rfl
noncomputable def fm_rdev : F := runF cxN 65 ([SV.strE (E.avar 0)]) ([]) ({ b := 0, v := 0, i := 0, a := 1, bo := 0, p := 0, r := 0 }) Tryz.f65
def st_rdev (P : Program) (Post : Value → List HP → Prop) (A0 : Nat → Int) : Prop :=
 ∀ _ : Nat, ∃ (I0x0 : Ext → Prop) (m0x0 : Ext → Nat), (∃ x0 : Int, x0 = 0 ∧ I0x0 ⟨[], [], [x0], [], [], [], []⟩) ∧
 ∀ x0 : Int, I0x0 ⟨[], [], [x0], [], [], [], []⟩ →
 Need (0 ≤ (A0 0)) (
 Need ((¬ (x0 < (A0 0))) ∨ (0 ≤ x0)) (
 Need ((¬ (x0 < (A0 0))) ∨ (x0 < (A0 0))) (
 Fork ((x0 < (A0 0)) ∧ (¬ (((sbyF A0) (Int.toNat x0)) = 47))) (
 Need ((-9223372036854775808) ≤ (x0 + 1)) (
 Need ((x0 + 1) ≤ 9223372036854775807) (
 ∃ x0' : Int, x0' = (x0 + 1) ∧ I0x0 ⟨[], [], [x0'], [], [], [], []⟩ ∧ m0x0 ⟨[], [], [x0'], [], [], [], []⟩ < m0x0 ⟨[], [], [x0], [], [], [], []⟩))) (
 Fork (x0 = (A0 0)) (
 Post (.tuple #[.agg #[.int .u8 0, .int .u8 0], .bool false]) []) (
 Need (0 ≤ x0) (
 Need (x0 ≤ (A0 0)) (
 ∃ post, Meets P 67 [.string ⟨(strD (updF A0 0 x0)).toArray⟩, .int .u64 255] [] post ∧
 ∀ x hs, post x hs → ∃ x1 : Int, ∃ q0 : Bool, x = .tuple #[.int .u64 x1, .bool q0] ∧ hs = [] ∧
 Need ((-9223372036854775808) ≤ (x0 + 1)) (
 Need ((x0 + 1) ≤ 9223372036854775807) (
 Need (0 ≤ (x0 + 1)) (
 Need ((x0 + 1) ≤ (A0 0)) (
 ∃ post, Meets P 67 [.string ⟨(strD (updF (shiftF A0 (Int.toNat (x0 + 1))) 0 ((A0 0) - (x0 + 1)))).toArray⟩, .int .u64 255] [] post ∧
 ∀ x hs, post x hs → ∃ x2 : Int, ∃ q1 : Bool, x = .tuple #[.int .u64 x2, .bool q1] ∧ hs = [] ∧
 Post (.tuple #[.agg #[.int .u8 (IntKind.wrap .u8 x1), .int .u8 (IntKind.wrap .u8 x2)], .bool (q0 && q1)]) [])))))))))))
theorem vc_rdev (P : Program) (Post : Value → List HP → Prop) (A0 : Nat → Int) (L : Nat → LC) : VC P (fun v _ => Post v []) fm_rdev { iv := [], av := [A0], bo := [], bv := [], vv := [] } L = st_rdev P Post A0 := by kernel_rfl
theorem run_rdev : runF cxN 65 ([SV.strE (E.avar 0)]) ([]) ({ b := 0, v := 0, i := 0, a := 1, bo := 0, p := 0, r := 0 }) Tryz.f65 = fm_rdev := rfl
end Go.RX.Su

namespace Go.RX.Ln
open Go.RX
/-- A call that answers a string, and touches no memory. -/
def strCall : CallAnn := { use := fun _ _ => [], inc := { a := 1 }, val := fun c => .strE (.avar c.a), new := fun _ _ => [] }
def numCall : CallAnn := { use := fun _ _ => [], inc := { i := 2 }, val := fun c => .tup [.int .i64 (.var c.i), .int .i64 (.var (c.i + 1))], new := fun _ _ => [] }
/-- The document's side: numbers, lines. -/
def callsA (f d : Nat) : Option CallAnn :=
  match f, d with
  | 54, 15 => some strCall
  | 23, 50 => some strCall
  | 23, 57 => some strCall
  | 23, 64 => some strCall
  | _, _ => none
def hpId (c : Cnt) (h : List Ck) : List Ck :=
  match h with
  | r :: .row b w [x, y, z, u, .seg k n _] :: rest => r :: .row b w [x, y, z, u, .seg k n (.avar c.a)] :: rest
  | h => h
def loops (f id : Nat) : Option LoopAnn :=
  match f, id with
  | 59, 0 => some { inc := { i := 2 }, slots := fun c => [(8, .int .i64 (.var c.i)), (1, .int .i64 (.var (c.i + 1)))] }
  | 25, 4 => some { inc := { i := 1, a := 1 }, slots := fun c => [(11, .int .i64 (.var c.i))], hp := hpId }
  | _, _ => none
end Go.RX.Ln

namespace Go.RX.Ln
open Go.RX Go.Proofs
noncomputable def cxA : Ctx := { T := TT, FT := FT, loops := loops, calls := callsA }
set_option maxRecDepth 100000
end Go.RX.Ln

namespace Go.RX.Ln
open Go.RX Go.Proofs
theorem dec_len : ∀ u : Nat, 1 ≤ (Lib.decDigits u).length ∧ (Lib.decDigits u).length ≤ u + 1 := by
  intro u
  induction u using Nat.strongRecOn with
  | _ u ih =>
    rw [Lib.decDigits]
    by_cases h : u < 10
    · rw [dif_pos h]
      simp
    · rw [dif_neg h, List.length_append]
      have := ih (u / 10) (by omega)
      simp only [List.length_singleton]
      omega
theorem dec_len20 : ∀ (k u : Nat), u < 10 ^ (k + 1) → (Lib.decDigits u).length ≤ k + 1 := by
  intro k
  induction k with
  | zero =>
    intro u hu
    rw [Lib.decDigits, dif_pos (by simpa using hu)]
    simp
  | succ k ih =>
    intro u hu
    rw [Lib.decDigits]
    by_cases h : u < 10
    · rw [dif_pos h]
      simp
    · rw [dif_neg h, List.length_append]
      have := ih (u / 10) (by rw [Nat.pow_succ] at hu; omega)
      simp only [List.length_singleton]
      omega
def strV (l : List UInt8) : Value := .string ⟨l.toArray⟩
theorem strV_row (l : List UInt8) : strV l = .string ⟨(strD (rowS l)).toArray⟩ := by rw [strD_rowS]; rfl
theorem rowS0 (l : List UInt8) : rowS l 0 = l.length := rfl
end Go.RX.Ln

namespace Go.RX.Su
open Go Go.RX Go.Proofs Go.RX.Ln
/-- Digits alone, to a number that is at most so great. -/
def valR (M : Nat) : List UInt8 → Nat → Option Nat
  | [], n => some n
  | c :: r, n => if 48 ≤ c.toNat ∧ c.toNat ≤ 57 then (if M < 10 * n + (c.toNat - 48) then none else valR M r (10 * n + (c.toNat - 48))) else none
def numR (M : Nat) (l : List UInt8) : Option Nat := if (l.length = 0 ∨ 20 < l.length) ∨ (l.getD 0 0 = 48 ∧ 1 < l.length) then none else valR M l 0
theorem valR_dec (M : Nat) : ∀ u : Nat, u ≤ M → ∀ r : List UInt8, valR M (Lib.decDigits u ++ r) 0 = valR M r u := by
  intro u
  induction u using Nat.strongRecOn with
  | _ u ih =>
    intro hu r
    rw [Lib.decDigits]
    by_cases h : u < 10
    · rw [dif_pos h, List.singleton_append, valR]
      have hc : (UInt8.ofNat (48 + u)).toNat = 48 + u := by rw [UInt8.toNat_ofNat']; omega
      rw [hc, if_pos (by omega), if_neg (by omega)]
      congr 1
      omega
    · rw [dif_neg h, List.append_assoc, ih (u / 10) (by omega) (by omega), List.singleton_append, valR]
      have hc : (UInt8.ofNat (48 + u % 10)).toNat = 48 + u % 10 := by rw [UInt8.toNat_ofNat']; omega
      rw [hc, if_pos (by omega), if_neg (by omega)]
      congr 1
      omega
theorem dec_step (a d : Nat) (ha : 0 < a) (hd : d < 10) : Lib.decDigits (10 * a + d) = Lib.decDigits a ++ [UInt8.ofNat (48 + d)] := by
  conv => lhs; rw [Lib.decDigits]
  rw [dif_neg (by omega), show (10 * a + d) / 10 = a by omega, show (10 * a + d) % 10 = d by omega]
theorem dec_one (d : Nat) (hd : d < 10) : Lib.decDigits d = [UInt8.ofNat (48 + d)] := by rw [Lib.decDigits, dif_pos hd]
theorem digit_back (c : UInt8) (h : 48 ≤ c.toNat) : UInt8.ofNat (48 + (c.toNat - 48)) = c := by
  rw [show 48 + (c.toNat - 48) = c.toNat by omega, UInt8.ofNat_toNat]
theorem valR_back (M : Nat) : ∀ (r : List UInt8) (a n : Nat), valR M r a = some n → a ≤ M → 0 < a → n ≤ M ∧ Lib.decDigits n = Lib.decDigits a ++ r
  | [], a, n, h, ha, _ => by
    rw [valR, Option.some.injEq] at h
    subst h
    exact ⟨ha, by simp⟩
  | c :: r, a, n, h, ha, h0 => by
    rw [valR] at h
    split at h
    · rename_i hc
      split at h
      · cases h
      · rename_i hm
        have := valR_back M r _ n h (by omega) (by omega)
        rw [dec_step a _ h0 (by omega), digit_back c hc.1] at this
        exact ⟨this.1, by rw [this.2]; simp⟩
    · cases h
theorem dec_head : ∀ u : Nat, (Lib.decDigits u).getD 0 0 = 48 → u = 0 := by
  intro u
  induction u using Nat.strongRecOn with
  | _ u ih =>
    intro h
    rw [Lib.decDigits] at h
    by_cases h10 : u < 10
    · rw [dif_pos h10] at h
      simp only [List.getD_cons_zero] at h
      have hc : (UInt8.ofNat (48 + u)).toNat = 48 + u := by rw [UInt8.toNat_ofNat']; omega
      rw [h] at hc
      have : (48 : UInt8).toNat = 48 := rfl
      omega
    · rw [dif_neg h10] at h
      have hl := (dec_len (u / 10)).1
      have : (Lib.decDigits (u / 10) ++ [UInt8.ofNat (48 + u % 10)]).getD 0 0 = (Lib.decDigits (u / 10)).getD 0 0 := by
        rw [List.getD_eq_getElem?_getD, List.getElem?_append_left (by omega), ← List.getD_eq_getElem?_getD]
      rw [this] at h
      have := ih (u / 10) (by omega) h
      omega
/-- The document's number: the one whose digits these are. -/
theorem numR_iff (M : Nat) (hM : M < 18446744073709551616) (l : List UInt8) (n : Nat) : numR M l = some n ↔ n ≤ M ∧ l = Lib.decDigits n := by
  constructor
  · intro h
    unfold numR at h
    split at h
    · cases h
    · rename_i hc
      rcases l with _ | ⟨c, r⟩
      · simp at hc
      · rw [valR] at h
        split at h
        · rename_i hd
          split at h
          · cases h
          · rename_i hm
            by_cases h0 : c = 48
            · subst h0
              simp only [List.getD_cons_zero, List.length_cons, true_and] at hc
              have hr : r = [] := by rcases r with _ | ⟨x, r⟩; rfl; simp at hc
              subst hr
              rw [valR, Option.some.injEq] at h
              have e : (48 : UInt8).toNat = 48 := rfl
              rw [e] at h
              subst h
              exact ⟨by omega, by rw [dec_one _ (by omega)]; rfl⟩
            · have hne : c.toNat ≠ 48 := fun e => h0 (UInt8.toNat_inj.1 e)
              obtain ⟨h1, h2⟩ := valR_back M r _ n h (by omega) (by omega)
              refine ⟨h1, ?_⟩
              rw [h2, show 10 * 0 + (c.toNat - 48) = c.toNat - 48 by omega, dec_one _ (by omega), digit_back c hd.1]
              rfl
        · cases h
  · rintro ⟨hn, rfl⟩
    have hl := dec_len n
    have h20 : (Lib.decDigits n).length ≤ 20 := dec_len20 19 n (by omega)
    unfold numR
    rw [if_neg]
    · have := valR_dec M n hn []
      rw [List.append_nil] at this
      rw [this]
      rfl
    · rintro (h | ⟨h, h1⟩)
      · omega
      · have := dec_head n h
        subst this
        rw [dec_one 0 (by omega)] at h1
        simp at h1
end Go.RX.Su

namespace Go.RX.Ln
open Go.RX Go.Proofs
theorem sby_row (l : List UInt8) (j : Nat) (h : j < l.length) : sbyF (rowS l) j = ((l[j]'h).toNat : Int) := by
  have := strD_get (rowS l) (j := j) (by rw [rowS0]; omega)
  rw [strD_rowS, List.getElem?_eq_getElem h] at this
  simpa using this.symm
end Go.RX.Ln

namespace Go.RX.Su
open Go Go.RX Go.Proofs Go.RX.Ln
theorem u64_in (x : Int) (h : 0 ≤ x ∧ x ≤ 18446744073709551615) : IntKind.wrap .u64 x = x := wrap_fits .u64 x h.1 h.2
theorem u8_in (x : Int) (h : 0 ≤ x ∧ x ≤ 255) : IntKind.wrap .u8 x = x := wrap_fits .u8 x h.1 h.2
/-- What a reader of numbers answers. -/
def numQ (k : IntKind) (o : Option Nat) : Value := .tuple #[.int k (o.getD 0 : Nat), .bool o.isSome]
theorem rnum_meets (l : List UInt8) (M : Nat) (hM : M ≤ 18446744073709551615) (hl : l.length ≤ 4611686018427387904) :
    Meets Tryz.prog 67 [strV l, .int .u64 M] [] (fun v hs => v = numQ .u64 (numR M l) ∧ hs = []) := by
  have e0 : strV l = (SV.strE (.avar 0)).val { iv := [(M : Int)], av := [rowS l] } := strV_row l
  rw [e0]
  refine Meets.of_bare (C := cxA) (cnt := { i := 1, a := 1 }) (ρ := { iv := [(M : Int)], av := [rowS l] }) okT okFT okM Tryz.func67 (by constructor <;> rfl) (fun v => v = numQ .u64 (numR M l))
    (args := [.strE (.avar 0), .int .u64 (.var 0)]) run_rnum (vc_rnum Tryz.prog (fun v _ => v = numQ .u64 (numR M l)) M (rowS l) (fun _ => LC.none)) ?_
  unfold st_rnum
  rw [rowS0]
  refine ⟨by omega, fun _ => ⟨by omega, fun _ => ⟨by omega, fun _ => ⟨by omega, fun _ => ⟨fun h => ?_, fun h => ?_⟩⟩⟩⟩⟩
  · have : numR M l = none := by
      unfold numR
      rw [if_pos]
      rcases h with h | h
      · exact .inl (by omega)
      · refine .inr ⟨?_, by omega⟩
        have hb := sby_row l 0 (by omega)
        rw [h.1] at hb
        rw [List.getD_eq_getElem?_getD, List.getElem?_eq_getElem (by omega), Option.getD_some]
        exact UInt8.toNat_inj.1 (by have e : (48 : UInt8).toNat = 48 := rfl; omega)
    show _ = numQ _ _
    rw [this]
    rfl
  have hn : numR M l = valR M l 0 := by
    unfold numR
    rw [if_neg]
    rintro (h1 | ⟨h1, h2⟩)
    · exact h (.inl (by omega))
    · refine h (.inr ⟨?_, by omega⟩)
      rw [sby_row l 0 (by omega)]
      rw [List.getD_eq_getElem?_getD, List.getElem?_eq_getElem (by omega), Option.getD_some] at h1
      rw [h1]
      rfl
  rw [hn]
  refine ⟨fun e => let n := e.i.getD 0 0; let p := e.i.getD 1 0; 0 ≤ n ∧ n ≤ M ∧ 0 ≤ p ∧ p ≤ l.length ∧ valR M (l.drop p.toNat) n.toNat = valR M l 0, fun e => ((l.length : Int) - e.i.getD 1 0).toNat,
    ⟨0, 0, rfl, rfl, by simp⟩, ?_⟩
  rintro n p ⟨hn0, hn1, hp0, hp1, hrun⟩
  simp only [List.getD_cons_zero, List.getD_cons_succ] at hn0 hn1 hp0 hp1 hrun
  refine ⟨by omega, fun _ => ⟨fun hp => ?_, fun hp => ?_⟩⟩
  · have hpl : p.toNat < l.length := by omega
    rw [sby_row l _ hpl]
    have hb := (l[p.toNat]'hpl).toNat_lt
    rw [List.drop_eq_getElem_cons hpl, valR] at hrun
    generalize hc : (l[p.toNat]'hpl).toNat = c at hrun hb ⊢
    refine ⟨hp0, fun _ => ⟨by omega, fun _ => ⟨by omega, fun _ => ⟨fun h => ?_, fun h => ?_⟩⟩⟩⟩
    · rw [if_neg (by omega)] at hrun
      show _ = numQ _ _
      rw [← hrun]
      rfl
    · rw [if_pos (by omega)] at hrun
      rw [u64_in (c : Int) (by omega), u64_in ((c : Int) - 48) (by omega)]
      refine ⟨.inr rfl, fun _ => ⟨fun h2 => ?_, fun h2 => ?_⟩⟩
      · rw [if_pos] at hrun
        · show _ = numQ _ _
          rw [← hrun]
          rfl
        · rcases Nat.lt_or_ge M (c - 48) with h3 | h3
          · omega
          · rw [u64_in ((M : Int) - (c - 48)) (by omega)] at h2
            simp only [iop] at h2
            rw [Int.tdiv_eq_ediv_of_nonneg (by omega), u64_in _ (by omega)] at h2
            omega
      · have h3 : c - 48 ≤ M := by
          rcases Nat.lt_or_ge M (c - 48) with h3 | h3
          · exact absurd (.inl (by omega)) h2
          · exact h3
        have h4 : ¬ (M : Int) < 10 * n + (c - 48) := by
          intro h4
          apply h2
          right
          rw [u64_in ((M : Int) - (c - 48)) (by omega)]
          simp only [iop]
          rw [Int.tdiv_eq_ediv_of_nonneg (by omega), u64_in _ (by omega)]
          omega
        rw [if_neg (by omega)] at hrun
        refine ⟨by omega, fun _ => ⟨by omega, fun _ => ⟨_, p + 1, rfl, rfl, ⟨?_, ?_, ?_, ?_, ?_⟩, ?_⟩⟩⟩
        all_goals simp only [List.getD_cons_zero, List.getD_cons_succ]
        · rw [u64_in (10 * n) (by omega), u64_in _ (by omega)]; omega
        · rw [u64_in (10 * n) (by omega), u64_in _ (by omega)]; omega
        · omega
        · omega
        · rw [u64_in (10 * n) (by omega), u64_in _ (by omega), ← hrun, show (p + 1).toNat = p.toNat + 1 by omega]
          congr 1
          omega
        · omega
  · have : l.drop p.toNat = [] := List.drop_eq_nil_of_le (by omega)
    rw [this, valR] at hrun
    show _ = numQ _ _
    rw [← hrun]
    simp only [numQ, Option.getD_some, Option.isSome_some, Int.toNat_of_nonneg hn0]
end Go.RX.Su
