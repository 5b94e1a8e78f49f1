/- Printing of moves: what the functions leave to be shown (L); printed by a program of ours (wip/tools). -/
import Derived.Test.YtgaabcinjbjbgaaDoorM25
import Derived.Test.YtgaabcinjbjbgaaDoorM26

namespace Go.RX.Sp
open Go.RX Go.Proofs
noncomputable def cxL : Ctx := { T := TT, FT := FT, callees := calleesL, pure := Sc.pure }
set_option maxRecDepth 100000
noncomputable def fm_pl1 : F := runF cxL 12 ([SV.agg [SV.int (Go.IntKind.u8) (E.lit 1), SV.int (Go.IntKind.u8) (E.var 0), SV.int (Go.IntKind.u8) (E.var 1), SV.int (Go.IntKind.u8) (E.var 2), SV.int (Go.IntKind.u8) (E.var 3), SV.int (Go.IntKind.i64) (E.var 4), SV.int (Go.IntKind.u64) (E.var 5), SV.vv 0]]) ([Ck.abs 0, Ck.sli false 0 5 1 (E.var 6) [{ ck := CK.int (Go.IntKind.u8), w := 1, a := E.avar 0 }]]) ({ b := 0, v := 1, i := 7, a := 1, bo := 0, p := 1, r := 0 }) Tryd.f12
def st_pl1 (P : Program) (Post : Value → List HP → Prop) (x0 : Int) (x1 : Int) (x2 : Int) (x3 : Int) (x4 : Int) (x5 : Int) (x6 : Int) (_ : Nat → Int) (_ : V1) (p0 : HP) : Prop :=
 ∀ _ : Nat, ∀ _ : V1, ∀ _ : Nat, ∀ _ : Nat, ∀ _ : Nat, ∀ _ : Nat, ∃ post, Meets P 35 [.int .u64 (IntKind.wrap .u64 x0), .int .i64 10] [p0] post ∧
 ∀ x hs, post x hs → ∃ A1 : (Nat → Int), x = .string ⟨(strD A1).toArray⟩ ∧ hs = [p0] ∧
 Need (0 ≤ (A1 0)) (
 Need (((A1 0) + 1) ≤ 9223372036854775807) (
 ∃ post, Meets P 35 [.int .u64 (IntKind.wrap .u64 x1), .int .i64 10] [p0] post ∧
 ∀ x hs, post x hs → ∃ A2 : (Nat → Int), x = .string ⟨(strD A2).toArray⟩ ∧ hs = [p0] ∧
 Need (0 ≤ ((A1 0) + 1)) (
 Need (0 ≤ (A2 0)) (
 Need ((((A1 0) + 1) + (A2 0)) ≤ 9223372036854775807) (
 ∀ _ : Nat, ∀ _ : V1, ∃ post, Meets P 22 [.int .i64 x4] [p0] post ∧
 ∀ x hs, post x hs → ∃ A3 : (Nat → Int), x = .string ⟨(strD A3).toArray⟩ ∧ hs = [p0] ∧
 ∀ _ : Nat, ∀ _ : V1, Need (((¬ ((x2 = 0) ∧ (x3 = 0))) ∨ (¬ (x5 = 0))) ∨ (0 ≤ x6)) (
 Fork (((¬ ((x2 = 0) ∧ (x3 = 0))) ∨ (¬ (x5 = 0))) ∨ (0 < x6)) (
 Post (.tuple #[.string ⟨#[]⟩, .bool false]) []) (
 Need (0 ≤ (((A1 0) + 1) + (A2 0))) (
 Need (0 ≤ (A3 0)) (
 Need ((5 + (((((A1 0) + 1) + (A2 0)) + 1) + (A3 0))) ≤ 140737488355328) (
 Post (.tuple #[.string ⟨(strD (catF (catF (rowLF [4, 100, 105, 97, 108]) (rowLF [1, 32])) (catF (catF (catF (catF A1 (rowLF [1, 47])) A2) (rowLF [1, 32])) A3))).toArray⟩, .bool true]) []))))))))))
theorem vc_pl1 (P : Program) (Post : Value → List HP → Prop) (x0 : Int) (x1 : Int) (x2 : Int) (x3 : Int) (x4 : Int) (x5 : Int) (x6 : Int) (A0 : Nat → Int) (v0 : V1) (p0 : HP) (L : Nat → LC) : VC P (fun v _ => Post v []) fm_pl1 { iv := [x0, x1, x2, x3, x4, x5, x6], av := [A0], bo := [], bv := [], vv := [v0], pv := [p0] } L = st_pl1 P Post x0 x1 x2 x3 x4 x5 x6 A0 v0 p0 := by kernel_rfl
theorem run_pl1 : runF cxL 12 ([SV.agg [SV.int (Go.IntKind.u8) (E.lit 1), SV.int (Go.IntKind.u8) (E.var 0), SV.int (Go.IntKind.u8) (E.var 1), SV.int (Go.IntKind.u8) (E.var 2), SV.int (Go.IntKind.u8) (E.var 3), SV.int (Go.IntKind.i64) (E.var 4), SV.int (Go.IntKind.u64) (E.var 5), SV.vv 0]]) ([Ck.abs 0, Ck.sli false 0 5 1 (E.var 6) [{ ck := CK.int (Go.IntKind.u8), w := 1, a := E.avar 0 }]]) ({ b := 0, v := 1, i := 7, a := 1, bo := 0, p := 1, r := 0 }) Tryd.f12 = fm_pl1 := rfl
noncomputable def fm_pl2 : F := runF cxL 12 ([SV.agg [SV.int (Go.IntKind.u8) (E.lit 2), SV.int (Go.IntKind.u8) (E.var 0), SV.int (Go.IntKind.u8) (E.var 1), SV.int (Go.IntKind.u8) (E.var 2), SV.int (Go.IntKind.u8) (E.var 3), SV.int (Go.IntKind.i64) (E.var 4), SV.int (Go.IntKind.u64) (E.var 5), SV.vv 0]]) ([Ck.abs 0, Ck.sli false 0 5 1 (E.var 6) [{ ck := CK.int (Go.IntKind.u8), w := 1, a := E.avar 0 }]]) ({ b := 0, v := 1, i := 7, a := 1, bo := 0, p := 1, r := 0 }) Tryd.f12
def st_pl2 (P : Program) (Post : Value → List HP → Prop) (x0 : Int) (x1 : Int) (x2 : Int) (x3 : Int) (x4 : Int) (x5 : Int) (x6 : Int) (_ : Nat → Int) (_ : V1) (p0 : HP) : Prop :=
 ∀ _ : Nat, ∀ _ : V1, ∀ _ : Nat, ∀ _ : Nat, ∀ _ : Nat, ∀ _ : Nat, ∃ post, Meets P 35 [.int .u64 (IntKind.wrap .u64 x0), .int .i64 10] [p0] post ∧
 ∀ x hs, post x hs → ∃ A1 : (Nat → Int), x = .string ⟨(strD A1).toArray⟩ ∧ hs = [p0] ∧
 Need (0 ≤ (A1 0)) (
 Need (((A1 0) + 1) ≤ 9223372036854775807) (
 ∃ post, Meets P 35 [.int .u64 (IntKind.wrap .u64 x1), .int .i64 10] [p0] post ∧
 ∀ x hs, post x hs → ∃ A2 : (Nat → Int), x = .string ⟨(strD A2).toArray⟩ ∧ hs = [p0] ∧
 Need (0 ≤ ((A1 0) + 1)) (
 Need (0 ≤ (A2 0)) (
 Need ((((A1 0) + 1) + (A2 0)) ≤ 9223372036854775807) (
 ∀ _ : Nat, ∀ _ : V1, Need ((((¬ ((x2 = 0) ∧ (x3 = 0))) ∨ (¬ (x4 = 0))) ∨ (¬ (x5 = 0))) ∨ (0 ≤ x6)) (
 Fork ((((¬ ((x2 = 0) ∧ (x3 = 0))) ∨ (¬ (x4 = 0))) ∨ (¬ (x5 = 0))) ∨ (0 < x6)) (
 Post (.tuple #[.string ⟨#[]⟩, .bool false]) []) (
 Need (0 ≤ (((A1 0) + 1) + (A2 0))) (
 Need ((7 + (((A1 0) + 1) + (A2 0))) ≤ 140737488355328) (
 Post (.tuple #[.string ⟨(strD (catF (catF (rowLF [6, 97, 110, 115, 119, 101, 114]) (rowLF [1, 32])) (catF (catF A1 (rowLF [1, 47])) A2))).toArray⟩, .bool true]) [])))))))))
theorem vc_pl2 (P : Program) (Post : Value → List HP → Prop) (x0 : Int) (x1 : Int) (x2 : Int) (x3 : Int) (x4 : Int) (x5 : Int) (x6 : Int) (A0 : Nat → Int) (v0 : V1) (p0 : HP) (L : Nat → LC) : VC P (fun v _ => Post v []) fm_pl2 { iv := [x0, x1, x2, x3, x4, x5, x6], av := [A0], bo := [], bv := [], vv := [v0], pv := [p0] } L = st_pl2 P Post x0 x1 x2 x3 x4 x5 x6 A0 v0 p0 := by kernel_rfl
theorem run_pl2 : runF cxL 12 ([SV.agg [SV.int (Go.IntKind.u8) (E.lit 2), SV.int (Go.IntKind.u8) (E.var 0), SV.int (Go.IntKind.u8) (E.var 1), SV.int (Go.IntKind.u8) (E.var 2), SV.int (Go.IntKind.u8) (E.var 3), SV.int (Go.IntKind.i64) (E.var 4), SV.int (Go.IntKind.u64) (E.var 5), SV.vv 0]]) ([Ck.abs 0, Ck.sli false 0 5 1 (E.var 6) [{ ck := CK.int (Go.IntKind.u8), w := 1, a := E.avar 0 }]]) ({ b := 0, v := 1, i := 7, a := 1, bo := 0, p := 1, r := 0 }) Tryd.f12 = fm_pl2 := rfl
noncomputable def fm_pl3 : F := runF cxL 12 ([SV.agg [SV.int (Go.IntKind.u8) (E.lit 3), SV.int (Go.IntKind.u8) (E.var 0), SV.int (Go.IntKind.u8) (E.var 1), SV.int (Go.IntKind.u8) (E.var 2), SV.int (Go.IntKind.u8) (E.var 3), SV.int (Go.IntKind.i64) (E.var 4), SV.int (Go.IntKind.u64) (E.var 5), SV.vv 0]]) ([Ck.abs 0, Ck.sli false 0 5 1 (E.var 6) [{ ck := CK.int (Go.IntKind.u8), w := 1, a := E.avar 0 }]]) ({ b := 0, v := 1, i := 7, a := 1, bo := 0, p := 1, r := 0 }) Tryd.f12
def st_pl3 (P : Program) (Post : Value → List HP → Prop) (x0 : Int) (x1 : Int) (x2 : Int) (x3 : Int) (x4 : Int) (x5 : Int) (x6 : Int) (_ : Nat → Int) (_ : V1) (p0 : HP) : Prop :=
 ∀ _ : Nat, ∀ _ : V1, ∀ _ : Nat, ∀ _ : Nat, ∀ _ : Nat, ∀ _ : Nat, ∃ post, Meets P 35 [.int .u64 (IntKind.wrap .u64 x0), .int .i64 10] [p0] post ∧
 ∀ x hs, post x hs → ∃ A1 : (Nat → Int), x = .string ⟨(strD A1).toArray⟩ ∧ hs = [p0] ∧
 Need (0 ≤ (A1 0)) (
 Need (((A1 0) + 1) ≤ 9223372036854775807) (
 ∃ post, Meets P 35 [.int .u64 (IntKind.wrap .u64 x1), .int .i64 10] [p0] post ∧
 ∀ x hs, post x hs → ∃ A2 : (Nat → Int), x = .string ⟨(strD A2).toArray⟩ ∧ hs = [p0] ∧
 Need (0 ≤ ((A1 0) + 1)) (
 Need (0 ≤ (A2 0)) (
 Need ((((A1 0) + 1) + (A2 0)) ≤ 9223372036854775807) (
 ∀ _ : Nat, ∀ _ : V1, Need ((((¬ ((x2 = 0) ∧ (x3 = 0))) ∨ (¬ (x4 = 0))) ∨ (¬ (x5 = 0))) ∨ (0 ≤ x6)) (
 Fork ((((¬ ((x2 = 0) ∧ (x3 = 0))) ∨ (¬ (x4 = 0))) ∨ (¬ (x5 = 0))) ∨ (0 < x6)) (
 Post (.tuple #[.string ⟨#[]⟩, .bool false]) []) (
 Need (0 ≤ (((A1 0) + 1) + (A2 0))) (
 Need ((8 + (((A1 0) + 1) + (A2 0))) ≤ 140737488355328) (
 Post (.tuple #[.string ⟨(strD (catF (catF (rowLF [7, 100, 101, 99, 108, 105, 110, 101]) (rowLF [1, 32])) (catF (catF A1 (rowLF [1, 47])) A2))).toArray⟩, .bool true]) [])))))))))
theorem vc_pl3 (P : Program) (Post : Value → List HP → Prop) (x0 : Int) (x1 : Int) (x2 : Int) (x3 : Int) (x4 : Int) (x5 : Int) (x6 : Int) (A0 : Nat → Int) (v0 : V1) (p0 : HP) (L : Nat → LC) : VC P (fun v _ => Post v []) fm_pl3 { iv := [x0, x1, x2, x3, x4, x5, x6], av := [A0], bo := [], bv := [], vv := [v0], pv := [p0] } L = st_pl3 P Post x0 x1 x2 x3 x4 x5 x6 A0 v0 p0 := by kernel_rfl
theorem run_pl3 : runF cxL 12 ([SV.agg [SV.int (Go.IntKind.u8) (E.lit 3), SV.int (Go.IntKind.u8) (E.var 0), SV.int (Go.IntKind.u8) (E.var 1), SV.int (Go.IntKind.u8) (E.var 2), SV.int (Go.IntKind.u8) (E.var 3), SV.int (Go.IntKind.i64) (E.var 4), SV.int (Go.IntKind.u64) (E.var 5), SV.vv 0]]) ([Ck.abs 0, Ck.sli false 0 5 1 (E.var 6) [{ ck := CK.int (Go.IntKind.u8), w := 1, a := E.avar 0 }]]) ({ b := 0, v := 1, i := 7, a := 1, bo := 0, p := 1, r := 0 }) Tryd.f12 = fm_pl3 := rfl
noncomputable def fm_pl4 : F := runF cxL 12 ([SV.agg [SV.int (Go.IntKind.u8) (E.lit 4), SV.int (Go.IntKind.u8) (E.var 0), SV.int (Go.IntKind.u8) (E.var 1), SV.int (Go.IntKind.u8) (E.var 2), SV.int (Go.IntKind.u8) (E.var 3), SV.int (Go.IntKind.i64) (E.var 4), SV.int (Go.IntKind.u64) (E.var 5), SV.vv 0]]) ([Ck.abs 0, Ck.sli false 0 5 1 (E.var 6) [{ ck := CK.int (Go.IntKind.u8), w := 1, a := E.avar 0 }]]) ({ b := 0, v := 1, i := 7, a := 1, bo := 0, p := 1, r := 0 }) Tryd.f12
def st_pl4 (P : Program) (Post : Value → List HP → Prop) (x0 : Int) (x1 : Int) (x2 : Int) (x3 : Int) (x4 : Int) (x5 : Int) (x6 : Int) (_ : Nat → Int) (_ : V1) (p0 : HP) : Prop :=
 ∀ _ : Nat, ∀ _ : V1, ∀ _ : Nat, ∀ _ : Nat, ∀ _ : Nat, ∀ _ : Nat, ∃ post, Meets P 35 [.int .u64 (IntKind.wrap .u64 x0), .int .i64 10] [p0] post ∧
 ∀ x hs, post x hs → ∃ A1 : (Nat → Int), x = .string ⟨(strD A1).toArray⟩ ∧ hs = [p0] ∧
 Need (0 ≤ (A1 0)) (
 Need (((A1 0) + 1) ≤ 9223372036854775807) (
 ∃ post, Meets P 35 [.int .u64 (IntKind.wrap .u64 x1), .int .i64 10] [p0] post ∧
 ∀ x hs, post x hs → ∃ A2 : (Nat → Int), x = .string ⟨(strD A2).toArray⟩ ∧ hs = [p0] ∧
 Need (0 ≤ ((A1 0) + 1)) (
 Need (0 ≤ (A2 0)) (
 Need ((((A1 0) + 1) + (A2 0)) ≤ 9223372036854775807) (
 ∀ _ : Nat, ∀ _ : V1, Need ((((¬ ((x2 = 0) ∧ (x3 = 0))) ∨ (¬ (x4 = 0))) ∨ (¬ (x5 = 0))) ∨ (0 ≤ x6)) (
 Fork ((((¬ ((x2 = 0) ∧ (x3 = 0))) ∨ (¬ (x4 = 0))) ∨ (¬ (x5 = 0))) ∨ (0 < x6)) (
 Post (.tuple #[.string ⟨#[]⟩, .bool false]) []) (
 Need (0 ≤ (((A1 0) + 1) + (A2 0))) (
 Need ((5 + (((A1 0) + 1) + (A2 0))) ≤ 140737488355328) (
 Post (.tuple #[.string ⟨(strD (catF (catF (rowLF [4, 104, 97, 110, 103]) (rowLF [1, 32])) (catF (catF A1 (rowLF [1, 47])) A2))).toArray⟩, .bool true]) [])))))))))
theorem vc_pl4 (P : Program) (Post : Value → List HP → Prop) (x0 : Int) (x1 : Int) (x2 : Int) (x3 : Int) (x4 : Int) (x5 : Int) (x6 : Int) (A0 : Nat → Int) (v0 : V1) (p0 : HP) (L : Nat → LC) : VC P (fun v _ => Post v []) fm_pl4 { iv := [x0, x1, x2, x3, x4, x5, x6], av := [A0], bo := [], bv := [], vv := [v0], pv := [p0] } L = st_pl4 P Post x0 x1 x2 x3 x4 x5 x6 A0 v0 p0 := by kernel_rfl
theorem run_pl4 : runF cxL 12 ([SV.agg [SV.int (Go.IntKind.u8) (E.lit 4), SV.int (Go.IntKind.u8) (E.var 0), SV.int (Go.IntKind.u8) (E.var 1), SV.int (Go.IntKind.u8) (E.var 2), SV.int (Go.IntKind.u8) (E.var 3), SV.int (Go.IntKind.i64) (E.var 4), SV.int (Go.IntKind.u64) (E.var 5), SV.vv 0]]) ([Ck.abs 0, Ck.sli false 0 5 1 (E.var 6) [{ ck := CK.int (Go.IntKind.u8), w := 1, a := E.avar 0 }]]) ({ b := 0, v := 1, i := 7, a := 1, bo := 0, p := 1, r := 0 }) Tryd.f12 = fm_pl4 := rfl
noncomputable def fm_pl5 : F := runF cxL 12 ([SV.agg [SV.int (Go.IntKind.u8) (E.lit 5), SV.int (Go.IntKind.u8) (E.var 0), SV.int (Go.IntKind.u8) (E.var 1), SV.int (Go.IntKind.u8) (E.var 2), SV.int (Go.IntKind.u8) (E.var 3), SV.int (Go.IntKind.i64) (E.var 4), SV.int (Go.IntKind.u64) (E.var 5), SV.vv 0]]) ([Ck.abs 0, Ck.sli false 0 5 1 (E.var 6) [{ ck := CK.int (Go.IntKind.u8), w := 1, a := E.avar 0 }]]) ({ b := 0, v := 1, i := 7, a := 1, bo := 0, p := 1, r := 0 }) Tryd.f12
def st_pl5 (P : Program) (Post : Value → List HP → Prop) (x0 : Int) (x1 : Int) (x2 : Int) (x3 : Int) (x4 : Int) (x5 : Int) (x6 : Int) (_ : Nat → Int) (_ : V1) (p0 : HP) : Prop :=
 ∀ _ : Nat, ∀ _ : V1, ∀ _ : Nat, ∀ _ : Nat, ∀ _ : Nat, ∃ post, Meets P 22 [.int .i64 x4] [p0] post ∧
 ∀ x hs, post x hs → ∃ A1 : (Nat → Int), x = .string ⟨(strD A1).toArray⟩ ∧ hs = [p0] ∧
 ∀ _ : Nat, ∀ _ : V1, Need ((((¬ ((x0 = 0) ∧ (x1 = 0))) ∨ (¬ ((x2 = 0) ∧ (x3 = 0)))) ∨ (¬ (x5 = 0))) ∨ (0 ≤ x6)) (
 Fork ((((¬ ((x0 = 0) ∧ (x1 = 0))) ∨ (¬ ((x2 = 0) ∧ (x3 = 0)))) ∨ (¬ (x5 = 0))) ∨ (0 < x6)) (
 Post (.tuple #[.string ⟨#[]⟩, .bool false]) []) (
 Need (0 ≤ (A1 0)) (
 Need ((5 + (A1 0)) ≤ 140737488355328) (
 Post (.tuple #[.string ⟨(strD (catF (catF (rowLF [4, 116, 105, 99, 107]) (rowLF [1, 32])) A1)).toArray⟩, .bool true]) []))))
theorem vc_pl5 (P : Program) (Post : Value → List HP → Prop) (x0 : Int) (x1 : Int) (x2 : Int) (x3 : Int) (x4 : Int) (x5 : Int) (x6 : Int) (A0 : Nat → Int) (v0 : V1) (p0 : HP) (L : Nat → LC) : VC P (fun v _ => Post v []) fm_pl5 { iv := [x0, x1, x2, x3, x4, x5, x6], av := [A0], bo := [], bv := [], vv := [v0], pv := [p0] } L = st_pl5 P Post x0 x1 x2 x3 x4 x5 x6 A0 v0 p0 := by kernel_rfl
theorem run_pl5 : runF cxL 12 ([SV.agg [SV.int (Go.IntKind.u8) (E.lit 5), SV.int (Go.IntKind.u8) (E.var 0), SV.int (Go.IntKind.u8) (E.var 1), SV.int (Go.IntKind.u8) (E.var 2), SV.int (Go.IntKind.u8) (E.var 3), SV.int (Go.IntKind.i64) (E.var 4), SV.int (Go.IntKind.u64) (E.var 5), SV.vv 0]]) ([Ck.abs 0, Ck.sli false 0 5 1 (E.var 6) [{ ck := CK.int (Go.IntKind.u8), w := 1, a := E.avar 0 }]]) ({ b := 0, v := 1, i := 7, a := 1, bo := 0, p := 1, r := 0 }) Tryd.f12 = fm_pl5 := rfl
noncomputable def fm_pl6 : F := runF cxL 12 ([SV.agg [SV.int (Go.IntKind.u8) (E.lit 6), SV.int (Go.IntKind.u8) (E.var 0), SV.int (Go.IntKind.u8) (E.var 1), SV.int (Go.IntKind.u8) (E.var 2), SV.int (Go.IntKind.u8) (E.var 3), SV.int (Go.IntKind.i64) (E.var 4), SV.int (Go.IntKind.u64) (E.var 5), SV.vv 0]]) ([Ck.abs 0, Ck.sli false 0 5 1 (E.var 6) [{ ck := CK.int (Go.IntKind.u8), w := 1, a := E.avar 0 }]]) ({ b := 0, v := 1, i := 7, a := 1, bo := 0, p := 1, r := 0 }) Tryd.f12
def st_pl6 (P : Program) (Post : Value → List HP → Prop) (x0 : Int) (x1 : Int) (x2 : Int) (x3 : Int) (x4 : Int) (x5 : Int) (x6 : Int) (_ : Nat → Int) (_ : V1) (p0 : HP) : Prop :=
 ∀ _ : Nat, ∀ _ : V1, ∀ _ : Nat, ∀ _ : Nat, ∀ _ : Nat, ∃ post, Meets P 22 [.int .i64 x4] [p0] post ∧
 ∀ x hs, post x hs → ∃ A1 : (Nat → Int), x = .string ⟨(strD A1).toArray⟩ ∧ hs = [p0] ∧
 ∀ _ : Nat, ∀ _ : V1, Need ((((¬ ((x0 = 0) ∧ (x1 = 0))) ∨ (¬ ((x2 = 0) ∧ (x3 = 0)))) ∨ (¬ (x5 = 0))) ∨ (0 ≤ x6)) (
 Fork ((((¬ ((x0 = 0) ∧ (x1 = 0))) ∨ (¬ ((x2 = 0) ∧ (x3 = 0)))) ∨ (¬ (x5 = 0))) ∨ (0 < x6)) (
 Post (.tuple #[.string ⟨#[]⟩, .bool false]) []) (
 Need (0 ≤ (A1 0)) (
 Need ((8 + (A1 0)) ≤ 140737488355328) (
 Post (.tuple #[.string ⟨(strD (catF (catF (rowLF [7, 100, 101, 108, 105, 118, 101, 114]) (rowLF [1, 32])) A1)).toArray⟩, .bool true]) []))))
theorem vc_pl6 (P : Program) (Post : Value → List HP → Prop) (x0 : Int) (x1 : Int) (x2 : Int) (x3 : Int) (x4 : Int) (x5 : Int) (x6 : Int) (A0 : Nat → Int) (v0 : V1) (p0 : HP) (L : Nat → LC) : VC P (fun v _ => Post v []) fm_pl6 { iv := [x0, x1, x2, x3, x4, x5, x6], av := [A0], bo := [], bv := [], vv := [v0], pv := [p0] } L = st_pl6 P Post x0 x1 x2 x3 x4 x5 x6 A0 v0 p0 := by kernel_rfl
theorem run_pl6 : runF cxL 12 ([SV.agg [SV.int (Go.IntKind.u8) (E.lit 6), SV.int (Go.IntKind.u8) (E.var 0), SV.int (Go.IntKind.u8) (E.var 1), SV.int (Go.IntKind.u8) (E.var 2), SV.int (Go.IntKind.u8) (E.var 3), SV.int (Go.IntKind.i64) (E.var 4), SV.int (Go.IntKind.u64) (E.var 5), SV.vv 0]]) ([Ck.abs 0, Ck.sli false 0 5 1 (E.var 6) [{ ck := CK.int (Go.IntKind.u8), w := 1, a := E.avar 0 }]]) ({ b := 0, v := 1, i := 7, a := 1, bo := 0, p := 1, r := 0 }) Tryd.f12 = fm_pl6 := rfl
noncomputable def fm_pl7 : F := runF cxL 12 ([SV.agg [SV.int (Go.IntKind.u8) (E.lit 7), SV.int (Go.IntKind.u8) (E.var 0), SV.int (Go.IntKind.u8) (E.var 1), SV.int (Go.IntKind.u8) (E.var 2), SV.int (Go.IntKind.u8) (E.var 3), SV.int (Go.IntKind.i64) (E.var 4), SV.int (Go.IntKind.u64) (E.var 5), SV.vv 0]]) ([Ck.abs 0, Ck.sli false 0 5 1 (E.var 6) [{ ck := CK.int (Go.IntKind.u8), w := 1, a := E.avar 0 }]]) ({ b := 0, v := 1, i := 7, a := 1, bo := 0, p := 1, r := 0 }) Tryd.f12
def st_pl7 (P : Program) (Post : Value → List HP → Prop) (x0 : Int) (x1 : Int) (x2 : Int) (x3 : Int) (x4 : Int) (x5 : Int) (x6 : Int) (_ : Nat → Int) (_ : V1) (p0 : HP) : Prop :=
 ∀ _ : Nat, ∀ _ : V1, ∀ _ : Nat, ∀ _ : Nat, ∀ _ : Nat, ∃ post, Meets P 22 [.int .i64 x4] [p0] post ∧
 ∀ x hs, post x hs → ∃ A1 : (Nat → Int), x = .string ⟨(strD A1).toArray⟩ ∧ hs = [p0] ∧
 ∀ _ : Nat, ∀ _ : V1, Need ((((¬ ((x0 = 0) ∧ (x1 = 0))) ∨ (¬ ((x2 = 0) ∧ (x3 = 0)))) ∨ (¬ (x5 = 0))) ∨ (0 ≤ x6)) (
 Fork ((((¬ ((x0 = 0) ∧ (x1 = 0))) ∨ (¬ ((x2 = 0) ∧ (x3 = 0)))) ∨ (¬ (x5 = 0))) ∨ (0 < x6)) (
 Post (.tuple #[.string ⟨#[]⟩, .bool false]) []) (
 Need (0 ≤ (A1 0)) (
 Need ((5 + (A1 0)) ≤ 140737488355328) (
 Post (.tuple #[.string ⟨(strD (catF (catF (rowLF [4, 100, 114, 111, 112]) (rowLF [1, 32])) A1)).toArray⟩, .bool true]) []))))
theorem vc_pl7 (P : Program) (Post : Value → List HP → Prop) (x0 : Int) (x1 : Int) (x2 : Int) (x3 : Int) (x4 : Int) (x5 : Int) (x6 : Int) (A0 : Nat → Int) (v0 : V1) (p0 : HP) (L : Nat → LC) : VC P (fun v _ => Post v []) fm_pl7 { iv := [x0, x1, x2, x3, x4, x5, x6], av := [A0], bo := [], bv := [], vv := [v0], pv := [p0] } L = st_pl7 P Post x0 x1 x2 x3 x4 x5 x6 A0 v0 p0 := by kernel_rfl
theorem run_pl7 : runF cxL 12 ([SV.agg [SV.int (Go.IntKind.u8) (E.lit 7), SV.int (Go.IntKind.u8) (E.var 0), SV.int (Go.IntKind.u8) (E.var 1), SV.int (Go.IntKind.u8) (E.var 2), SV.int (Go.IntKind.u8) (E.var 3), SV.int (Go.IntKind.i64) (E.var 4), SV.int (Go.IntKind.u64) (E.var 5), SV.vv 0]]) ([Ck.abs 0, Ck.sli false 0 5 1 (E.var 6) [{ ck := CK.int (Go.IntKind.u8), w := 1, a := E.avar 0 }]]) ({ b := 0, v := 1, i := 7, a := 1, bo := 0, p := 1, r := 0 }) Tryd.f12 = fm_pl7 := rfl
noncomputable def fm_pl8 : F := runF cxL 12 ([SV.agg [SV.int (Go.IntKind.u8) (E.lit 8), SV.int (Go.IntKind.u8) (E.var 0), SV.int (Go.IntKind.u8) (E.var 1), SV.int (Go.IntKind.u8) (E.var 2), SV.int (Go.IntKind.u8) (E.var 3), SV.int (Go.IntKind.i64) (E.var 4), SV.int (Go.IntKind.u64) (E.var 5), SV.vv 0]]) ([Ck.abs 0, Ck.sli false 0 5 1 (E.var 6) [{ ck := CK.int (Go.IntKind.u8), w := 1, a := E.avar 0 }]]) ({ b := 0, v := 1, i := 7, a := 1, bo := 0, p := 1, r := 0 }) Tryd.f12
def st_pl8 (P : Program) (Post : Value → List HP → Prop) (x0 : Int) (x1 : Int) (x2 : Int) (x3 : Int) (x4 : Int) (x5 : Int) (x6 : Int) (_ : Nat → Int) (_ : V1) (p0 : HP) : Prop :=
 ∀ _ : Nat, ∀ _ : V1, ∀ _ : Nat, ∀ _ : Nat, ∀ _ : Nat, ∃ post, Meets P 22 [.int .i64 x4] [p0] post ∧
 ∀ x hs, post x hs → ∃ A1 : (Nat → Int), x = .string ⟨(strD A1).toArray⟩ ∧ hs = [p0] ∧
 ∀ _ : Nat, ∀ _ : V1, Need ((((¬ ((x0 = 0) ∧ (x1 = 0))) ∨ (¬ ((x2 = 0) ∧ (x3 = 0)))) ∨ (¬ (x5 = 0))) ∨ (0 ≤ x6)) (
 Fork ((((¬ ((x0 = 0) ∧ (x1 = 0))) ∨ (¬ ((x2 = 0) ∧ (x3 = 0)))) ∨ (¬ (x5 = 0))) ∨ (0 < x6)) (
 Post (.tuple #[.string ⟨#[]⟩, .bool false]) []) (
 Need (0 ≤ (A1 0)) (
 Need ((7 + (A1 0)) ≤ 140737488355328) (
 Post (.tuple #[.string ⟨(strD (catF (catF (rowLF [6, 100, 111, 117, 98, 108, 101]) (rowLF [1, 32])) A1)).toArray⟩, .bool true]) []))))
theorem vc_pl8 (P : Program) (Post : Value → List HP → Prop) (x0 : Int) (x1 : Int) (x2 : Int) (x3 : Int) (x4 : Int) (x5 : Int) (x6 : Int) (A0 : Nat → Int) (v0 : V1) (p0 : HP) (L : Nat → LC) : VC P (fun v _ => Post v []) fm_pl8 { iv := [x0, x1, x2, x3, x4, x5, x6], av := [A0], bo := [], bv := [], vv := [v0], pv := [p0] } L = st_pl8 P Post x0 x1 x2 x3 x4 x5 x6 A0 v0 p0 := by kernel_rfl
theorem run_pl8 : runF cxL 12 ([SV.agg [SV.int (Go.IntKind.u8) (E.lit 8), SV.int (Go.IntKind.u8) (E.var 0), SV.int (Go.IntKind.u8) (E.var 1), SV.int (Go.IntKind.u8) (E.var 2), SV.int (Go.IntKind.u8) (E.var 3), SV.int (Go.IntKind.i64) (E.var 4), SV.int (Go.IntKind.u64) (E.var 5), SV.vv 0]]) ([Ck.abs 0, Ck.sli false 0 5 1 (E.var 6) [{ ck := CK.int (Go.IntKind.u8), w := 1, a := E.avar 0 }]]) ({ b := 0, v := 1, i := 7, a := 1, bo := 0, p := 1, r := 0 }) Tryd.f12 = fm_pl8 := rfl
noncomputable def fm_pl9 : F := runF cxL 12 ([SV.agg [SV.int (Go.IntKind.u8) (E.lit 9), SV.int (Go.IntKind.u8) (E.var 0), SV.int (Go.IntKind.u8) (E.var 1), SV.int (Go.IntKind.u8) (E.var 2), SV.int (Go.IntKind.u8) (E.var 3), SV.int (Go.IntKind.i64) (E.var 4), SV.int (Go.IntKind.u64) (E.var 5), SV.vv 0]]) ([Ck.abs 0, Ck.sli false 0 5 1 (E.var 6) [{ ck := CK.int (Go.IntKind.u8), w := 1, a := E.avar 0 }]]) ({ b := 0, v := 1, i := 7, a := 1, bo := 0, p := 1, r := 0 }) Tryd.f12
def st_pl9 (P : Program) (Post : Value → List HP → Prop) (x0 : Int) (x1 : Int) (x2 : Int) (x3 : Int) (x4 : Int) (x5 : Int) (x6 : Int) (_ : Nat → Int) (_ : V1) (p0 : HP) : Prop :=
 ∀ _ : Nat, ∀ _ : V1, ∀ _ : Nat, ∀ _ : Nat, ∀ _ : Nat, ∃ post, Meets P 22 [.int .i64 x4] [p0] post ∧
 ∀ x hs, post x hs → ∃ A1 : (Nat → Int), x = .string ⟨(strD A1).toArray⟩ ∧ hs = [p0] ∧
 ∀ _ : Nat, ∀ _ : V1, ∃ post, Meets P 35 [.int .u64 x5, .int .i64 10] [p0] post ∧
 ∀ x hs, post x hs → ∃ A2 : (Nat → Int), x = .string ⟨(strD A2).toArray⟩ ∧ hs = [p0] ∧
 ∀ _ : Nat, ∀ _ : V1, Need (((¬ ((x0 = 0) ∧ (x1 = 0))) ∨ (¬ ((x2 = 0) ∧ (x3 = 0)))) ∨ (0 ≤ x6)) (
 Fork (((¬ ((x0 = 0) ∧ (x1 = 0))) ∨ (¬ ((x2 = 0) ∧ (x3 = 0)))) ∨ (0 < x6)) (
 Post (.tuple #[.string ⟨#[]⟩, .bool false]) []) (
 Need (0 ≤ (A1 0)) (
 Need (0 ≤ (A2 0)) (
 Need ((7 + (((A1 0) + 1) + (A2 0))) ≤ 140737488355328) (
 Post (.tuple #[.string ⟨(strD (catF (catF (rowLF [6, 116, 97, 109, 112, 101, 114]) (rowLF [1, 32])) (catF (catF A1 (rowLF [1, 32])) A2))).toArray⟩, .bool true]) [])))))
theorem vc_pl9 (P : Program) (Post : Value → List HP → Prop) (x0 : Int) (x1 : Int) (x2 : Int) (x3 : Int) (x4 : Int) (x5 : Int) (x6 : Int) (A0 : Nat → Int) (v0 : V1) (p0 : HP) (L : Nat → LC) : VC P (fun v _ => Post v []) fm_pl9 { iv := [x0, x1, x2, x3, x4, x5, x6], av := [A0], bo := [], bv := [], vv := [v0], pv := [p0] } L = st_pl9 P Post x0 x1 x2 x3 x4 x5 x6 A0 v0 p0 := by kernel_rfl
theorem run_pl9 : runF cxL 12 ([SV.agg [SV.int (Go.IntKind.u8) (E.lit 9), SV.int (Go.IntKind.u8) (E.var 0), SV.int (Go.IntKind.u8) (E.var 1), SV.int (Go.IntKind.u8) (E.var 2), SV.int (Go.IntKind.u8) (E.var 3), SV.int (Go.IntKind.i64) (E.var 4), SV.int (Go.IntKind.u64) (E.var 5), SV.vv 0]]) ([Ck.abs 0, Ck.sli false 0 5 1 (E.var 6) [{ ck := CK.int (Go.IntKind.u8), w := 1, a := E.avar 0 }]]) ({ b := 0, v := 1, i := 7, a := 1, bo := 0, p := 1, r := 0 }) Tryd.f12 = fm_pl9 := rfl
noncomputable def fm_pl10 : F := runF cxL 12 ([SV.agg [SV.int (Go.IntKind.u8) (E.lit 10), SV.int (Go.IntKind.u8) (E.var 0), SV.int (Go.IntKind.u8) (E.var 1), SV.int (Go.IntKind.u8) (E.var 2), SV.int (Go.IntKind.u8) (E.var 3), SV.int (Go.IntKind.i64) (E.var 4), SV.int (Go.IntKind.u64) (E.var 5), SV.vv 0]]) ([Ck.abs 0, Ck.sli false 0 5 1 (E.var 6) [{ ck := CK.int (Go.IntKind.u8), w := 1, a := E.avar 0 }]]) ({ b := 0, v := 1, i := 7, a := 1, bo := 0, p := 1, r := 0 }) Tryd.f12
def st_pl10 (P : Program) (Post : Value → List HP → Prop) (x0 : Int) (x1 : Int) (x2 : Int) (x3 : Int) (x4 : Int) (x5 : Int) (x6 : Int) (A0 : Nat → Int) (v0 : V1) (p0 : HP) : Prop :=
 ∀ _ : Nat, ∀ _ : V1, ∀ _ : Nat, ∀ _ : Nat, ∀ _ : Nat, ∀ _ : Nat, ∃ post, Meets P 35 [.int .u64 (IntKind.wrap .u64 x0), .int .i64 10] [p0] post ∧
 ∀ x hs, post x hs → ∃ A1 : (Nat → Int), x = .string ⟨(strD A1).toArray⟩ ∧ hs = [p0] ∧
 Need (0 ≤ (A1 0)) (
 Need (((A1 0) + 1) ≤ 9223372036854775807) (
 ∃ post, Meets P 35 [.int .u64 (IntKind.wrap .u64 x1), .int .i64 10] [p0] post ∧
 ∀ x hs, post x hs → ∃ A2 : (Nat → Int), x = .string ⟨(strD A2).toArray⟩ ∧ hs = [p0] ∧
 Need (0 ≤ ((A1 0) + 1)) (
 Need (0 ≤ (A2 0)) (
 Need ((((A1 0) + 1) + (A2 0)) ≤ 9223372036854775807) (
 ∀ _ : Nat, ∀ _ : V1, ∃ post, Meets P 24 [v0.v] [sliHP false 5 1 v0.v (Int.toNat x6) (tabL (Int.toNat x6) [colI .u8 1 A0])] post ∧
 ∀ x hs, post x hs → ∃ A3 : (Nat → Int), x = .string ⟨(strD A3).toArray⟩ ∧ hs = [sliHP false 5 1 v0.v (Int.toNat x6) (tabL (Int.toNat x6) [colI .u8 1 A0])] ∧
 ∀ _ : Nat, ∀ _ : V1, Fork (((¬ ((x2 = 0) ∧ (x3 = 0))) ∨ (¬ (x4 = 0))) ∨ (¬ (x5 = 0))) (
 Post (.tuple #[.string ⟨#[]⟩, .bool false]) []) (
 Need (0 ≤ (((A1 0) + 1) + (A2 0))) (
 Need (0 ≤ (A3 0)) (
 Need ((7 + (((((A1 0) + 1) + (A2 0)) + 1) + (A3 0))) ≤ 140737488355328) (
 Post (.tuple #[.string ⟨(strD (catF (catF (rowLF [6, 105, 110, 106, 101, 99, 116]) (rowLF [1, 32])) (catF (catF (catF (catF A1 (rowLF [1, 47])) A2) (rowLF [1, 32])) A3))).toArray⟩, .bool true]) [])))))))))
theorem vc_pl10 (P : Program) (Post : Value → List HP → Prop) (x0 : Int) (x1 : Int) (x2 : Int) (x3 : Int) (x4 : Int) (x5 : Int) (x6 : Int) (A0 : Nat → Int) (v0 : V1) (p0 : HP) (L : Nat → LC) : VC P (fun v _ => Post v []) fm_pl10 { iv := [x0, x1, x2, x3, x4, x5, x6], av := [A0], bo := [], bv := [], vv := [v0], pv := [p0] } L = st_pl10 P Post x0 x1 x2 x3 x4 x5 x6 A0 v0 p0 := by kernel_rfl
theorem run_pl10 : runF cxL 12 ([SV.agg [SV.int (Go.IntKind.u8) (E.lit 10), SV.int (Go.IntKind.u8) (E.var 0), SV.int (Go.IntKind.u8) (E.var 1), SV.int (Go.IntKind.u8) (E.var 2), SV.int (Go.IntKind.u8) (E.var 3), SV.int (Go.IntKind.i64) (E.var 4), SV.int (Go.IntKind.u64) (E.var 5), SV.vv 0]]) ([Ck.abs 0, Ck.sli false 0 5 1 (E.var 6) [{ ck := CK.int (Go.IntKind.u8), w := 1, a := E.avar 0 }]]) ({ b := 0, v := 1, i := 7, a := 1, bo := 0, p := 1, r := 0 }) Tryd.f12 = fm_pl10 := rfl
noncomputable def fm_pl11 : F := runF cxL 12 ([SV.agg [SV.int (Go.IntKind.u8) (E.lit 11), SV.int (Go.IntKind.u8) (E.var 0), SV.int (Go.IntKind.u8) (E.var 1), SV.int (Go.IntKind.u8) (E.var 2), SV.int (Go.IntKind.u8) (E.var 3), SV.int (Go.IntKind.i64) (E.var 4), SV.int (Go.IntKind.u64) (E.var 5), SV.vv 0]]) ([Ck.abs 0, Ck.sli false 0 5 1 (E.var 6) [{ ck := CK.int (Go.IntKind.u8), w := 1, a := E.avar 0 }]]) ({ b := 0, v := 1, i := 7, a := 1, bo := 0, p := 1, r := 0 }) Tryd.f12
def st_pl11 (P : Program) (Post : Value → List HP → Prop) (x0 : Int) (x1 : Int) (x2 : Int) (x3 : Int) (x4 : Int) (x5 : Int) (x6 : Int) (_ : Nat → Int) (_ : V1) (p0 : HP) : Prop :=
 ∀ _ : Nat, ∀ _ : V1, ∀ _ : Nat, ∀ _ : Nat, ∀ _ : Nat, ∀ _ : Nat, ∃ post, Meets P 35 [.int .u64 (IntKind.wrap .u64 x0), .int .i64 10] [p0] post ∧
 ∀ x hs, post x hs → ∃ A1 : (Nat → Int), x = .string ⟨(strD A1).toArray⟩ ∧ hs = [p0] ∧
 Need (0 ≤ (A1 0)) (
 Need (((A1 0) + 1) ≤ 9223372036854775807) (
 ∃ post, Meets P 35 [.int .u64 (IntKind.wrap .u64 x1), .int .i64 10] [p0] post ∧
 ∀ x hs, post x hs → ∃ A2 : (Nat → Int), x = .string ⟨(strD A2).toArray⟩ ∧ hs = [p0] ∧
 Need (0 ≤ ((A1 0) + 1)) (
 Need (0 ≤ (A2 0)) (
 Need ((((A1 0) + 1) + (A2 0)) ≤ 9223372036854775807) (
 ∀ _ : Nat, ∀ _ : V1, Need ((((¬ ((x2 = 0) ∧ (x3 = 0))) ∨ (¬ (x4 = 0))) ∨ (¬ (x5 = 0))) ∨ (0 ≤ x6)) (
 Fork ((((¬ ((x2 = 0) ∧ (x3 = 0))) ∨ (¬ (x4 = 0))) ∨ (¬ (x5 = 0))) ∨ (0 < x6)) (
 Post (.tuple #[.string ⟨#[]⟩, .bool false]) []) (
 Need (0 ≤ (((A1 0) + 1) + (A2 0))) (
 Need ((7 + (((A1 0) + 1) + (A2 0))) ≤ 140737488355328) (
 Post (.tuple #[.string ⟨(strD (catF (catF (rowLF [6, 99, 114, 101, 97, 116, 101]) (rowLF [1, 32])) (catF (catF A1 (rowLF [1, 47])) A2))).toArray⟩, .bool true]) [])))))))))
theorem vc_pl11 (P : Program) (Post : Value → List HP → Prop) (x0 : Int) (x1 : Int) (x2 : Int) (x3 : Int) (x4 : Int) (x5 : Int) (x6 : Int) (A0 : Nat → Int) (v0 : V1) (p0 : HP) (L : Nat → LC) : VC P (fun v _ => Post v []) fm_pl11 { iv := [x0, x1, x2, x3, x4, x5, x6], av := [A0], bo := [], bv := [], vv := [v0], pv := [p0] } L = st_pl11 P Post x0 x1 x2 x3 x4 x5 x6 A0 v0 p0 := by kernel_rfl
theorem run_pl11 : runF cxL 12 ([SV.agg [SV.int (Go.IntKind.u8) (E.lit 11), SV.int (Go.IntKind.u8) (E.var 0), SV.int (Go.IntKind.u8) (E.var 1), SV.int (Go.IntKind.u8) (E.var 2), SV.int (Go.IntKind.u8) (E.var 3), SV.int (Go.IntKind.i64) (E.var 4), SV.int (Go.IntKind.u64) (E.var 5), SV.vv 0]]) ([Ck.abs 0, Ck.sli false 0 5 1 (E.var 6) [{ ck := CK.int (Go.IntKind.u8), w := 1, a := E.avar 0 }]]) ({ b := 0, v := 1, i := 7, a := 1, bo := 0, p := 1, r := 0 }) Tryd.f12 = fm_pl11 := rfl
noncomputable def fm_pl12 : F := runF cxL 12 ([SV.agg [SV.int (Go.IntKind.u8) (E.lit 12), SV.int (Go.IntKind.u8) (E.var 0), SV.int (Go.IntKind.u8) (E.var 1), SV.int (Go.IntKind.u8) (E.var 2), SV.int (Go.IntKind.u8) (E.var 3), SV.int (Go.IntKind.i64) (E.var 4), SV.int (Go.IntKind.u64) (E.var 5), SV.vv 0]]) ([Ck.abs 0, Ck.sli false 0 5 1 (E.var 6) [{ ck := CK.int (Go.IntKind.u8), w := 1, a := E.avar 0 }]]) ({ b := 0, v := 1, i := 7, a := 1, bo := 0, p := 1, r := 0 }) Tryd.f12
def st_pl12 (P : Program) (Post : Value → List HP → Prop) (x0 : Int) (x1 : Int) (x2 : Int) (x3 : Int) (x4 : Int) (x5 : Int) (x6 : Int) (_ : Nat → Int) (_ : V1) (p0 : HP) : Prop :=
 ∀ _ : Nat, ∀ _ : V1, ∀ _ : Nat, ∀ _ : Nat, ∀ _ : Nat, ∀ _ : Nat, ∃ post, Meets P 35 [.int .u64 (IntKind.wrap .u64 x0), .int .i64 10] [p0] post ∧
 ∀ x hs, post x hs → ∃ A1 : (Nat → Int), x = .string ⟨(strD A1).toArray⟩ ∧ hs = [p0] ∧
 Need (0 ≤ (A1 0)) (
 Need (((A1 0) + 1) ≤ 9223372036854775807) (
 ∃ post, Meets P 35 [.int .u64 (IntKind.wrap .u64 x1), .int .i64 10] [p0] post ∧
 ∀ x hs, post x hs → ∃ A2 : (Nat → Int), x = .string ⟨(strD A2).toArray⟩ ∧ hs = [p0] ∧
 Need (0 ≤ ((A1 0) + 1)) (
 Need (0 ≤ (A2 0)) (
 Need ((((A1 0) + 1) + (A2 0)) ≤ 9223372036854775807) (
 ∀ _ : Nat, ∀ _ : V1, ∀ _ : Nat, ∃ post, Meets P 35 [.int .u64 (IntKind.wrap .u64 x2), .int .i64 10] [p0] post ∧
 ∀ x hs, post x hs → ∃ A3 : (Nat → Int), x = .string ⟨(strD A3).toArray⟩ ∧ hs = [p0] ∧
 Need (0 ≤ (A3 0)) (
 Need (((A3 0) + 1) ≤ 9223372036854775807) (
 ∃ post, Meets P 35 [.int .u64 (IntKind.wrap .u64 x3), .int .i64 10] [p0] post ∧
 ∀ x hs, post x hs → ∃ A4 : (Nat → Int), x = .string ⟨(strD A4).toArray⟩ ∧ hs = [p0] ∧
 Need (0 ≤ ((A3 0) + 1)) (
 Need (0 ≤ (A4 0)) (
 Need ((((A3 0) + 1) + (A4 0)) ≤ 9223372036854775807) (
 ∀ _ : Nat, ∀ _ : V1, Need (((¬ (x4 = 0)) ∨ (¬ (x5 = 0))) ∨ (0 ≤ x6)) (
 Fork (((¬ (x4 = 0)) ∨ (¬ (x5 = 0))) ∨ (0 < x6)) (
 Post (.tuple #[.string ⟨#[]⟩, .bool false]) []) (
 Need (0 ≤ (((A1 0) + 1) + (A2 0))) (
 Need (0 ≤ (((A3 0) + 1) + (A4 0))) (
 Need ((4 + (((((A1 0) + 1) + (A2 0)) + 1) + (((A3 0) + 1) + (A4 0)))) ≤ 140737488355328) (
 Post (.tuple #[.string ⟨(strD (catF (catF (rowLF [3, 97, 100, 100]) (rowLF [1, 32])) (catF (catF (catF (catF A1 (rowLF [1, 47])) A2) (rowLF [1, 32])) (catF (catF A3 (rowLF [1, 47])) A4)))).toArray⟩, .bool true]) [])))))))))))))))
theorem vc_pl12 (P : Program) (Post : Value → List HP → Prop) (x0 : Int) (x1 : Int) (x2 : Int) (x3 : Int) (x4 : Int) (x5 : Int) (x6 : Int) (A0 : Nat → Int) (v0 : V1) (p0 : HP) (L : Nat → LC) : VC P (fun v _ => Post v []) fm_pl12 { iv := [x0, x1, x2, x3, x4, x5, x6], av := [A0], bo := [], bv := [], vv := [v0], pv := [p0] } L = st_pl12 P Post x0 x1 x2 x3 x4 x5 x6 A0 v0 p0 := by kernel_rfl
theorem run_pl12 : runF cxL 12 ([SV.agg [SV.int (Go.IntKind.u8) (E.lit 12), SV.int (Go.IntKind.u8) (E.var 0), SV.int (Go.IntKind.u8) (E.var 1), SV.int (Go.IntKind.u8) (E.var 2), SV.int (Go.IntKind.u8) (E.var 3), SV.int (Go.IntKind.i64) (E.var 4), SV.int (Go.IntKind.u64) (E.var 5), SV.vv 0]]) ([Ck.abs 0, Ck.sli false 0 5 1 (E.var 6) [{ ck := CK.int (Go.IntKind.u8), w := 1, a := E.avar 0 }]]) ({ b := 0, v := 1, i := 7, a := 1, bo := 0, p := 1, r := 0 }) Tryd.f12 = fm_pl12 := rfl
noncomputable def fm_pl13 : F := runF cxL 12 ([SV.agg [SV.int (Go.IntKind.u8) (E.lit 13), SV.int (Go.IntKind.u8) (E.var 0), SV.int (Go.IntKind.u8) (E.var 1), SV.int (Go.IntKind.u8) (E.var 2), SV.int (Go.IntKind.u8) (E.var 3), SV.int (Go.IntKind.i64) (E.var 4), SV.int (Go.IntKind.u64) (E.var 5), SV.vv 0]]) ([Ck.abs 0, Ck.sli false 0 5 1 (E.var 6) [{ ck := CK.int (Go.IntKind.u8), w := 1, a := E.avar 0 }]]) ({ b := 0, v := 1, i := 7, a := 1, bo := 0, p := 1, r := 0 }) Tryd.f12
def st_pl13 (P : Program) (Post : Value → List HP → Prop) (x0 : Int) (x1 : Int) (x2 : Int) (x3 : Int) (x4 : Int) (x5 : Int) (x6 : Int) (_ : Nat → Int) (_ : V1) (p0 : HP) : Prop :=
 ∀ _ : Nat, ∀ _ : V1, ∀ _ : Nat, ∀ _ : Nat, ∀ _ : Nat, ∀ _ : Nat, ∃ post, Meets P 35 [.int .u64 (IntKind.wrap .u64 x0), .int .i64 10] [p0] post ∧
 ∀ x hs, post x hs → ∃ A1 : (Nat → Int), x = .string ⟨(strD A1).toArray⟩ ∧ hs = [p0] ∧
 Need (0 ≤ (A1 0)) (
 Need (((A1 0) + 1) ≤ 9223372036854775807) (
 ∃ post, Meets P 35 [.int .u64 (IntKind.wrap .u64 x1), .int .i64 10] [p0] post ∧
 ∀ x hs, post x hs → ∃ A2 : (Nat → Int), x = .string ⟨(strD A2).toArray⟩ ∧ hs = [p0] ∧
 Need (0 ≤ ((A1 0) + 1)) (
 Need (0 ≤ (A2 0)) (
 Need ((((A1 0) + 1) + (A2 0)) ≤ 9223372036854775807) (
 ∀ _ : Nat, ∀ _ : V1, ∀ _ : Nat, ∃ post, Meets P 35 [.int .u64 (IntKind.wrap .u64 x2), .int .i64 10] [p0] post ∧
 ∀ x hs, post x hs → ∃ A3 : (Nat → Int), x = .string ⟨(strD A3).toArray⟩ ∧ hs = [p0] ∧
 Need (0 ≤ (A3 0)) (
 Need (((A3 0) + 1) ≤ 9223372036854775807) (
 ∃ post, Meets P 35 [.int .u64 (IntKind.wrap .u64 x3), .int .i64 10] [p0] post ∧
 ∀ x hs, post x hs → ∃ A4 : (Nat → Int), x = .string ⟨(strD A4).toArray⟩ ∧ hs = [p0] ∧
 Need (0 ≤ ((A3 0) + 1)) (
 Need (0 ≤ (A4 0)) (
 Need ((((A3 0) + 1) + (A4 0)) ≤ 9223372036854775807) (
 ∀ _ : Nat, ∀ _ : V1, Need (((¬ (x4 = 0)) ∨ (¬ (x5 = 0))) ∨ (0 ≤ x6)) (
 Fork (((¬ (x4 = 0)) ∨ (¬ (x5 = 0))) ∨ (0 < x6)) (
 Post (.tuple #[.string ⟨#[]⟩, .bool false]) []) (
 Need (0 ≤ (((A1 0) + 1) + (A2 0))) (
 Need (0 ≤ (((A3 0) + 1) + (A4 0))) (
 Need ((5 + (((((A1 0) + 1) + (A2 0)) + 1) + (((A3 0) + 1) + (A4 0)))) ≤ 140737488355328) (
 Post (.tuple #[.string ⟨(strD (catF (catF (rowLF [4, 107, 105, 99, 107]) (rowLF [1, 32])) (catF (catF (catF (catF A1 (rowLF [1, 47])) A2) (rowLF [1, 32])) (catF (catF A3 (rowLF [1, 47])) A4)))).toArray⟩, .bool true]) [])))))))))))))))
theorem vc_pl13 (P : Program) (Post : Value → List HP → Prop) (x0 : Int) (x1 : Int) (x2 : Int) (x3 : Int) (x4 : Int) (x5 : Int) (x6 : Int) (A0 : Nat → Int) (v0 : V1) (p0 : HP) (L : Nat → LC) : VC P (fun v _ => Post v []) fm_pl13 { iv := [x0, x1, x2, x3, x4, x5, x6], av := [A0], bo := [], bv := [], vv := [v0], pv := [p0] } L = st_pl13 P Post x0 x1 x2 x3 x4 x5 x6 A0 v0 p0 := by kernel_rfl
theorem run_pl13 : runF cxL 12 ([SV.agg [SV.int (Go.IntKind.u8) (E.lit 13), SV.int (Go.IntKind.u8) (E.var 0), SV.int (Go.IntKind.u8) (E.var 1), SV.int (Go.IntKind.u8) (E.var 2), SV.int (Go.IntKind.u8) (E.var 3), SV.int (Go.IntKind.i64) (E.var 4), SV.int (Go.IntKind.u64) (E.var 5), SV.vv 0]]) ([Ck.abs 0, Ck.sli false 0 5 1 (E.var 6) [{ ck := CK.int (Go.IntKind.u8), w := 1, a := E.avar 0 }]]) ({ b := 0, v := 1, i := 7, a := 1, bo := 0, p := 1, r := 0 }) Tryd.f12 = fm_pl13 := rfl
noncomputable def fm_pl14 : F := runF cxL 12 ([SV.agg [SV.int (Go.IntKind.u8) (E.lit 14), SV.int (Go.IntKind.u8) (E.var 0), SV.int (Go.IntKind.u8) (E.var 1), SV.int (Go.IntKind.u8) (E.var 2), SV.int (Go.IntKind.u8) (E.var 3), SV.int (Go.IntKind.i64) (E.var 4), SV.int (Go.IntKind.u64) (E.var 5), SV.vv 0]]) ([Ck.abs 0, Ck.sli false 0 5 1 (E.var 6) [{ ck := CK.int (Go.IntKind.u8), w := 1, a := E.avar 0 }]]) ({ b := 0, v := 1, i := 7, a := 1, bo := 0, p := 1, r := 0 }) Tryd.f12
def st_pl14 (P : Program) (Post : Value → List HP → Prop) (x0 : Int) (x1 : Int) (x2 : Int) (x3 : Int) (x4 : Int) (x5 : Int) (x6 : Int) (_ : Nat → Int) (_ : V1) (p0 : HP) : Prop :=
 ∀ _ : Nat, ∀ _ : V1, ∀ _ : Nat, ∀ _ : Nat, ∀ _ : Nat, ∀ _ : Nat, ∃ post, Meets P 35 [.int .u64 (IntKind.wrap .u64 x0), .int .i64 10] [p0] post ∧
 ∀ x hs, post x hs → ∃ A1 : (Nat → Int), x = .string ⟨(strD A1).toArray⟩ ∧ hs = [p0] ∧
 Need (0 ≤ (A1 0)) (
 Need (((A1 0) + 1) ≤ 9223372036854775807) (
 ∃ post, Meets P 35 [.int .u64 (IntKind.wrap .u64 x1), .int .i64 10] [p0] post ∧
 ∀ x hs, post x hs → ∃ A2 : (Nat → Int), x = .string ⟨(strD A2).toArray⟩ ∧ hs = [p0] ∧
 Need (0 ≤ ((A1 0) + 1)) (
 Need (0 ≤ (A2 0)) (
 Need ((((A1 0) + 1) + (A2 0)) ≤ 9223372036854775807) (
 ∀ _ : Nat, ∀ _ : V1, Need ((((¬ ((x2 = 0) ∧ (x3 = 0))) ∨ (¬ (x4 = 0))) ∨ (¬ (x5 = 0))) ∨ (0 ≤ x6)) (
 Fork ((((¬ ((x2 = 0) ∧ (x3 = 0))) ∨ (¬ (x4 = 0))) ∨ (¬ (x5 = 0))) ∨ (0 < x6)) (
 Post (.tuple #[.string ⟨#[]⟩, .bool false]) []) (
 Need (0 ≤ (((A1 0) + 1) + (A2 0))) (
 Need ((6 + (((A1 0) + 1) + (A2 0))) ≤ 140737488355328) (
 Post (.tuple #[.string ⟨(strD (catF (catF (rowLF [5, 108, 101, 97, 118, 101]) (rowLF [1, 32])) (catF (catF A1 (rowLF [1, 47])) A2))).toArray⟩, .bool true]) [])))))))))
theorem vc_pl14 (P : Program) (Post : Value → List HP → Prop) (x0 : Int) (x1 : Int) (x2 : Int) (x3 : Int) (x4 : Int) (x5 : Int) (x6 : Int) (A0 : Nat → Int) (v0 : V1) (p0 : HP) (L : Nat → LC) : VC P (fun v _ => Post v []) fm_pl14 { iv := [x0, x1, x2, x3, x4, x5, x6], av := [A0], bo := [], bv := [], vv := [v0], pv := [p0] } L = st_pl14 P Post x0 x1 x2 x3 x4 x5 x6 A0 v0 p0 := by kernel_rfl
theorem run_pl14 : runF cxL 12 ([SV.agg [SV.int (Go.IntKind.u8) (E.lit 14), SV.int (Go.IntKind.u8) (E.var 0), SV.int (Go.IntKind.u8) (E.var 1), SV.int (Go.IntKind.u8) (E.var 2), SV.int (Go.IntKind.u8) (E.var 3), SV.int (Go.IntKind.i64) (E.var 4), SV.int (Go.IntKind.u64) (E.var 5), SV.vv 0]]) ([Ck.abs 0, Ck.sli false 0 5 1 (E.var 6) [{ ck := CK.int (Go.IntKind.u8), w := 1, a := E.avar 0 }]]) ({ b := 0, v := 1, i := 7, a := 1, bo := 0, p := 1, r := 0 }) Tryd.f12 = fm_pl14 := rfl
noncomputable def fm_pl15 : F := runF cxL 12 ([SV.agg [SV.int (Go.IntKind.u8) (E.lit 15), SV.int (Go.IntKind.u8) (E.var 0), SV.int (Go.IntKind.u8) (E.var 1), SV.int (Go.IntKind.u8) (E.var 2), SV.int (Go.IntKind.u8) (E.var 3), SV.int (Go.IntKind.i64) (E.var 4), SV.int (Go.IntKind.u64) (E.var 5), SV.vv 0]]) ([Ck.abs 0, Ck.sli false 0 5 1 (E.var 6) [{ ck := CK.int (Go.IntKind.u8), w := 1, a := E.avar 0 }]]) ({ b := 0, v := 1, i := 7, a := 1, bo := 0, p := 1, r := 0 }) Tryd.f12
def st_pl15 (P : Program) (Post : Value → List HP → Prop) (x0 : Int) (x1 : Int) (x2 : Int) (x3 : Int) (x4 : Int) (x5 : Int) (x6 : Int) (A0 : Nat → Int) (v0 : V1) (p0 : HP) : Prop :=
 ∀ _ : Nat, ∀ _ : V1, ∀ _ : Nat, ∀ _ : Nat, ∀ _ : Nat, ∀ _ : Nat, ∃ post, Meets P 35 [.int .u64 (IntKind.wrap .u64 x0), .int .i64 10] [p0] post ∧
 ∀ x hs, post x hs → ∃ A1 : (Nat → Int), x = .string ⟨(strD A1).toArray⟩ ∧ hs = [p0] ∧
 Need (0 ≤ (A1 0)) (
 Need (((A1 0) + 1) ≤ 9223372036854775807) (
 ∃ post, Meets P 35 [.int .u64 (IntKind.wrap .u64 x1), .int .i64 10] [p0] post ∧
 ∀ x hs, post x hs → ∃ A2 : (Nat → Int), x = .string ⟨(strD A2).toArray⟩ ∧ hs = [p0] ∧
 Need (0 ≤ ((A1 0) + 1)) (
 Need (0 ≤ (A2 0)) (
 Need ((((A1 0) + 1) + (A2 0)) ≤ 9223372036854775807) (
 ∀ _ : Nat, ∀ _ : V1, ∃ post, Meets P 24 [v0.v] [sliHP false 5 1 v0.v (Int.toNat x6) (tabL (Int.toNat x6) [colI .u8 1 A0])] post ∧
 ∀ x hs, post x hs → ∃ A3 : (Nat → Int), x = .string ⟨(strD A3).toArray⟩ ∧ hs = [sliHP false 5 1 v0.v (Int.toNat x6) (tabL (Int.toNat x6) [colI .u8 1 A0])] ∧
 ∀ _ : Nat, ∀ _ : V1, Fork (((¬ ((x2 = 0) ∧ (x3 = 0))) ∨ (¬ (x4 = 0))) ∨ (¬ (x5 = 0))) (
 Post (.tuple #[.string ⟨#[]⟩, .bool false]) []) (
 Need (0 ≤ (((A1 0) + 1) + (A2 0))) (
 Need (0 ≤ (A3 0)) (
 Need ((6 + (((((A1 0) + 1) + (A2 0)) + 1) + (A3 0))) ≤ 140737488355328) (
 Post (.tuple #[.string ⟨(strD (catF (catF (rowLF [5, 102, 114, 97, 109, 101]) (rowLF [1, 32])) (catF (catF (catF (catF A1 (rowLF [1, 47])) A2) (rowLF [1, 32])) A3))).toArray⟩, .bool true]) [])))))))))
theorem vc_pl15 (P : Program) (Post : Value → List HP → Prop) (x0 : Int) (x1 : Int) (x2 : Int) (x3 : Int) (x4 : Int) (x5 : Int) (x6 : Int) (A0 : Nat → Int) (v0 : V1) (p0 : HP) (L : Nat → LC) : VC P (fun v _ => Post v []) fm_pl15 { iv := [x0, x1, x2, x3, x4, x5, x6], av := [A0], bo := [], bv := [], vv := [v0], pv := [p0] } L = st_pl15 P Post x0 x1 x2 x3 x4 x5 x6 A0 v0 p0 := by kernel_rfl
theorem run_pl15 : runF cxL 12 ([SV.agg [SV.int (Go.IntKind.u8) (E.lit 15), SV.int (Go.IntKind.u8) (E.var 0), SV.int (Go.IntKind.u8) (E.var 1), SV.int (Go.IntKind.u8) (E.var 2), SV.int (Go.IntKind.u8) (E.var 3), SV.int (Go.IntKind.i64) (E.var 4), SV.int (Go.IntKind.u64) (E.var 5), SV.vv 0]]) ([Ck.abs 0, Ck.sli false 0 5 1 (E.var 6) [{ ck := CK.int (Go.IntKind.u8), w := 1, a := E.avar 0 }]]) ({ b := 0, v := 1, i := 7, a := 1, bo := 0, p := 1, r := 0 }) Tryd.f12 = fm_pl15 := rfl
end Go.RX.Sp
