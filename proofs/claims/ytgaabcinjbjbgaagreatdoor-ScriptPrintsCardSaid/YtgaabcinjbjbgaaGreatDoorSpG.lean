/- Printing of moves: what the functions leave to be shown (RL); printed by a program of ours (wip/tools). -/
import Derived.Test.YtgaabcinjbjbgaaGreatDoorAuCtx
import Derived.Test.YtgaabcinjbjbgaaGreatDoorAuA
import Derived.Test.YtgaabcinjbjbgaaGreatDoorRyK
namespace Go.RX.Sp
open Go.RX Go.Proofs
noncomputable def cxR1 : Ctx := { T := TT, FT := FT, loops := loopsR, callees := calleesR, pure := Sc.pure }
set_option maxRecDepth 100000
noncomputable def fm_rl1 : F := runF cxR1 15 ([Go.RX.SV.agg [Go.RX.SV.int (Go.IntKind.u8) (Go.RX.E.lit 1), Go.RX.SV.int (Go.IntKind.u8) (Go.RX.E.var 0), Go.RX.SV.int (Go.IntKind.u8) (Go.RX.E.var 1), Go.RX.SV.int (Go.IntKind.u8) (Go.RX.E.var 2), Go.RX.SV.int (Go.IntKind.u8) (Go.RX.E.var 3), Go.RX.SV.int (Go.IntKind.i64) (Go.RX.E.var 4), Go.RX.SV.int (Go.IntKind.u64) (Go.RX.E.var 5), Go.RX.SV.vv 0]]) ([Go.RX.Ck.sli false 0 5 1 (Go.RX.E.var 6) [{ ck := Go.RX.CK.int (Go.IntKind.u8), w := 1, a := Go.RX.E.avar 0 }]]) ({ b := 0, v := 1, i := 7, a := 1, bo := 0, p := 0, r := 0 }) Tryz.f15
def st_rl1 (P : Program) (Post : Value → List HP → Prop) (x0 : Int) (x1 : Int) (x2 : Int) (x3 : Int) (x4 : Int) (x5 : Int) (x6 : Int) (_ : Nat → Int) (_ : V1) : Prop :=
∀ _ : Nat, ∀ _ : Nat, ∀ _ : Nat, ∀ _ : Nat, Fork ((x2 = 0) ∧ (x3 = 0)) (
  Fork (x5 = 0) (
    Need (0 ≤ x6) (
    Fork (0 < x6) (
      Post (.string ⟨#[]⟩) []) (
      ∀ _ : Nat, ∃ post, Meets P 43 [.int .u64 (IntKind.wrap .u64 x0)] [] post ∧
      ∀ x hs, post x hs → ∃ A1 : (Nat → Int), x = .string ⟨(strD A1).toArray⟩ ∧ hs = [] ∧
      Need (0 ≤ (A1 0)) (
      Need (((A1 0) + 1) ≤ 9223372036854775807) (
      ∃ post, Meets P 43 [.int .u64 (IntKind.wrap .u64 x1)] [] post ∧
      ∀ x hs, post x hs → ∃ A2 : (Nat → Int), x = .string ⟨(strD A2).toArray⟩ ∧ hs = [] ∧
      Need (0 ≤ ((A1 0) + 1)) (
      Need (0 ≤ (A2 0)) (
      Need ((((A1 0) + 1) + (A2 0)) ≤ 9223372036854775807) (
      Need (0 ≤ (((A1 0) + 1) + (A2 0))) (
      Need ((5 + (((A1 0) + 1) + (A2 0))) ≤ 9223372036854775807) (
      Need (0 ≤ (5 + (((A1 0) + 1) + (A2 0)))) (
      Need (((5 + (((A1 0) + 1) + (A2 0))) + 1) ≤ 9223372036854775807) (
      ∃ post, Meets P 42 [.int .i64 x4] [] post ∧
      ∀ x hs, post x hs → ∃ A3 : (Nat → Int), x = .string ⟨(strD A3).toArray⟩ ∧ hs = [] ∧
      Need (0 ≤ ((5 + (((A1 0) + 1) + (A2 0))) + 1)) (
      Need (0 ≤ (A3 0)) (
      Need ((((5 + (((A1 0) + 1) + (A2 0))) + 1) + (A3 0)) ≤ 9223372036854775807) (
      Post (.string ⟨(strD (catF (catF (catF (rowLF [5, 100, 105, 97, 108, 32]) (catF (catF A1 (rowLF [1, 47])) A2)) (rowLF [1, 32])) A3)).toArray⟩) []))))))))))))))) (
    Post (.string ⟨#[]⟩) [])) (
  Post (.string ⟨#[]⟩) [])
theorem vc_rl1 (P : Program) (Post : Value → List HP → Prop) (x0 : Int) (x1 : Int) (x2 : Int) (x3 : Int) (x4 : Int) (x5 : Int) (x6 : Int) (A0 : Nat → Int) (v0 : V1) (L : Nat → LC) : VC P (fun v _ => Post v []) fm_rl1 { iv := [x0, x1, x2, x3, x4, x5, x6], av := [A0], bo := [], bv := [], vv := [v0] } L = st_rl1 P Post x0 x1 x2 x3 x4 x5 x6 A0 v0 := by kernel_rfl
theorem run_rl1 : runF cxR1 15 ([Go.RX.SV.agg [Go.RX.SV.int (Go.IntKind.u8) (Go.RX.E.lit 1), Go.RX.SV.int (Go.IntKind.u8) (Go.RX.E.var 0), Go.RX.SV.int (Go.IntKind.u8) (Go.RX.E.var 1), Go.RX.SV.int (Go.IntKind.u8) (Go.RX.E.var 2), Go.RX.SV.int (Go.IntKind.u8) (Go.RX.E.var 3), Go.RX.SV.int (Go.IntKind.i64) (Go.RX.E.var 4), Go.RX.SV.int (Go.IntKind.u64) (Go.RX.E.var 5), Go.RX.SV.vv 0]]) ([Go.RX.Ck.sli false 0 5 1 (Go.RX.E.var 6) [{ ck := Go.RX.CK.int (Go.IntKind.u8), w := 1, a := Go.RX.E.avar 0 }]]) ({ b := 0, v := 1, i := 7, a := 1, bo := 0, p := 0, r := 0 }) Tryz.f15 = fm_rl1 := rfl
noncomputable def fm_rl2 : F := runF cxR1 15 ([Go.RX.SV.agg [Go.RX.SV.int (Go.IntKind.u8) (Go.RX.E.lit 2), Go.RX.SV.int (Go.IntKind.u8) (Go.RX.E.var 0), Go.RX.SV.int (Go.IntKind.u8) (Go.RX.E.var 1), Go.RX.SV.int (Go.IntKind.u8) (Go.RX.E.var 2), Go.RX.SV.int (Go.IntKind.u8) (Go.RX.E.var 3), Go.RX.SV.int (Go.IntKind.i64) (Go.RX.E.var 4), Go.RX.SV.int (Go.IntKind.u64) (Go.RX.E.var 5), Go.RX.SV.vv 0]]) ([Go.RX.Ck.sli false 0 5 1 (Go.RX.E.var 6) [{ ck := Go.RX.CK.int (Go.IntKind.u8), w := 1, a := Go.RX.E.avar 0 }]]) ({ b := 0, v := 1, i := 7, a := 1, bo := 0, p := 0, r := 0 }) Tryz.f15
def st_rl2 (P : Program) (Post : Value → List HP → Prop) (x0 : Int) (x1 : Int) (x2 : Int) (x3 : Int) (x4 : Int) (x5 : Int) (x6 : Int) (_ : Nat → Int) (_ : V1) : Prop :=
∀ _ : Nat, ∀ _ : Nat, ∀ _ : Nat, ∀ _ : Nat, Fork ((x2 = 0) ∧ (x3 = 0)) (
  Fork (x4 = 0) (
    Fork (x5 = 0) (
      Need (0 ≤ x6) (
      Fork (0 < x6) (
        Post (.string ⟨#[]⟩) []) (
        ∀ _ : Nat, ∃ post, Meets P 43 [.int .u64 (IntKind.wrap .u64 x0)] [] post ∧
        ∀ x hs, post x hs → ∃ A1 : (Nat → Int), x = .string ⟨(strD A1).toArray⟩ ∧ hs = [] ∧
        Need (0 ≤ (A1 0)) (
        Need (((A1 0) + 1) ≤ 9223372036854775807) (
        ∃ post, Meets P 43 [.int .u64 (IntKind.wrap .u64 x1)] [] post ∧
        ∀ x hs, post x hs → ∃ A2 : (Nat → Int), x = .string ⟨(strD A2).toArray⟩ ∧ hs = [] ∧
        Need (0 ≤ ((A1 0) + 1)) (
        Need (0 ≤ (A2 0)) (
        Need ((((A1 0) + 1) + (A2 0)) ≤ 9223372036854775807) (
        Need (0 ≤ (((A1 0) + 1) + (A2 0))) (
        Need ((7 + (((A1 0) + 1) + (A2 0))) ≤ 9223372036854775807) (
        Post (.string ⟨(strD (catF (rowLF [7, 97, 110, 115, 119, 101, 114, 32]) (catF (catF A1 (rowLF [1, 47])) A2))).toArray⟩) [])))))))))) (
      Post (.string ⟨#[]⟩) [])) (
    Post (.string ⟨#[]⟩) [])) (
  Post (.string ⟨#[]⟩) [])
theorem vc_rl2 (P : Program) (Post : Value → List HP → Prop) (x0 : Int) (x1 : Int) (x2 : Int) (x3 : Int) (x4 : Int) (x5 : Int) (x6 : Int) (A0 : Nat → Int) (v0 : V1) (L : Nat → LC) : VC P (fun v _ => Post v []) fm_rl2 { iv := [x0, x1, x2, x3, x4, x5, x6], av := [A0], bo := [], bv := [], vv := [v0] } L = st_rl2 P Post x0 x1 x2 x3 x4 x5 x6 A0 v0 := by kernel_rfl
theorem run_rl2 : runF cxR1 15 ([Go.RX.SV.agg [Go.RX.SV.int (Go.IntKind.u8) (Go.RX.E.lit 2), Go.RX.SV.int (Go.IntKind.u8) (Go.RX.E.var 0), Go.RX.SV.int (Go.IntKind.u8) (Go.RX.E.var 1), Go.RX.SV.int (Go.IntKind.u8) (Go.RX.E.var 2), Go.RX.SV.int (Go.IntKind.u8) (Go.RX.E.var 3), Go.RX.SV.int (Go.IntKind.i64) (Go.RX.E.var 4), Go.RX.SV.int (Go.IntKind.u64) (Go.RX.E.var 5), Go.RX.SV.vv 0]]) ([Go.RX.Ck.sli false 0 5 1 (Go.RX.E.var 6) [{ ck := Go.RX.CK.int (Go.IntKind.u8), w := 1, a := Go.RX.E.avar 0 }]]) ({ b := 0, v := 1, i := 7, a := 1, bo := 0, p := 0, r := 0 }) Tryz.f15 = fm_rl2 := rfl
noncomputable def fm_rl3 : F := runF cxR1 15 ([Go.RX.SV.agg [Go.RX.SV.int (Go.IntKind.u8) (Go.RX.E.lit 3), Go.RX.SV.int (Go.IntKind.u8) (Go.RX.E.var 0), Go.RX.SV.int (Go.IntKind.u8) (Go.RX.E.var 1), Go.RX.SV.int (Go.IntKind.u8) (Go.RX.E.var 2), Go.RX.SV.int (Go.IntKind.u8) (Go.RX.E.var 3), Go.RX.SV.int (Go.IntKind.i64) (Go.RX.E.var 4), Go.RX.SV.int (Go.IntKind.u64) (Go.RX.E.var 5), Go.RX.SV.vv 0]]) ([Go.RX.Ck.sli false 0 5 1 (Go.RX.E.var 6) [{ ck := Go.RX.CK.int (Go.IntKind.u8), w := 1, a := Go.RX.E.avar 0 }]]) ({ b := 0, v := 1, i := 7, a := 1, bo := 0, p := 0, r := 0 }) Tryz.f15
def st_rl3 (P : Program) (Post : Value → List HP → Prop) (x0 : Int) (x1 : Int) (x2 : Int) (x3 : Int) (x4 : Int) (x5 : Int) (x6 : Int) (_ : Nat → Int) (_ : V1) : Prop :=
∀ _ : Nat, ∀ _ : Nat, ∀ _ : Nat, ∀ _ : Nat, Fork ((x2 = 0) ∧ (x3 = 0)) (
  Fork (x4 = 0) (
    Fork (x5 = 0) (
      Need (0 ≤ x6) (
      Fork (0 < x6) (
        Post (.string ⟨#[]⟩) []) (
        ∀ _ : Nat, ∃ post, Meets P 43 [.int .u64 (IntKind.wrap .u64 x0)] [] post ∧
        ∀ x hs, post x hs → ∃ A1 : (Nat → Int), x = .string ⟨(strD A1).toArray⟩ ∧ hs = [] ∧
        Need (0 ≤ (A1 0)) (
        Need (((A1 0) + 1) ≤ 9223372036854775807) (
        ∃ post, Meets P 43 [.int .u64 (IntKind.wrap .u64 x1)] [] post ∧
        ∀ x hs, post x hs → ∃ A2 : (Nat → Int), x = .string ⟨(strD A2).toArray⟩ ∧ hs = [] ∧
        Need (0 ≤ ((A1 0) + 1)) (
        Need (0 ≤ (A2 0)) (
        Need ((((A1 0) + 1) + (A2 0)) ≤ 9223372036854775807) (
        Need (0 ≤ (((A1 0) + 1) + (A2 0))) (
        Need ((8 + (((A1 0) + 1) + (A2 0))) ≤ 9223372036854775807) (
        Post (.string ⟨(strD (catF (rowLF [8, 100, 101, 99, 108, 105, 110, 101, 32]) (catF (catF A1 (rowLF [1, 47])) A2))).toArray⟩) [])))))))))) (
      Post (.string ⟨#[]⟩) [])) (
    Post (.string ⟨#[]⟩) [])) (
  Post (.string ⟨#[]⟩) [])
theorem vc_rl3 (P : Program) (Post : Value → List HP → Prop) (x0 : Int) (x1 : Int) (x2 : Int) (x3 : Int) (x4 : Int) (x5 : Int) (x6 : Int) (A0 : Nat → Int) (v0 : V1) (L : Nat → LC) : VC P (fun v _ => Post v []) fm_rl3 { iv := [x0, x1, x2, x3, x4, x5, x6], av := [A0], bo := [], bv := [], vv := [v0] } L = st_rl3 P Post x0 x1 x2 x3 x4 x5 x6 A0 v0 := by kernel_rfl
theorem run_rl3 : runF cxR1 15 ([Go.RX.SV.agg [Go.RX.SV.int (Go.IntKind.u8) (Go.RX.E.lit 3), Go.RX.SV.int (Go.IntKind.u8) (Go.RX.E.var 0), Go.RX.SV.int (Go.IntKind.u8) (Go.RX.E.var 1), Go.RX.SV.int (Go.IntKind.u8) (Go.RX.E.var 2), Go.RX.SV.int (Go.IntKind.u8) (Go.RX.E.var 3), Go.RX.SV.int (Go.IntKind.i64) (Go.RX.E.var 4), Go.RX.SV.int (Go.IntKind.u64) (Go.RX.E.var 5), Go.RX.SV.vv 0]]) ([Go.RX.Ck.sli false 0 5 1 (Go.RX.E.var 6) [{ ck := Go.RX.CK.int (Go.IntKind.u8), w := 1, a := Go.RX.E.avar 0 }]]) ({ b := 0, v := 1, i := 7, a := 1, bo := 0, p := 0, r := 0 }) Tryz.f15 = fm_rl3 := rfl
noncomputable def fm_rl4 : F := runF cxR1 15 ([Go.RX.SV.agg [Go.RX.SV.int (Go.IntKind.u8) (Go.RX.E.lit 4), Go.RX.SV.int (Go.IntKind.u8) (Go.RX.E.var 0), Go.RX.SV.int (Go.IntKind.u8) (Go.RX.E.var 1), Go.RX.SV.int (Go.IntKind.u8) (Go.RX.E.var 2), Go.RX.SV.int (Go.IntKind.u8) (Go.RX.E.var 3), Go.RX.SV.int (Go.IntKind.i64) (Go.RX.E.var 4), Go.RX.SV.int (Go.IntKind.u64) (Go.RX.E.var 5), Go.RX.SV.vv 0]]) ([Go.RX.Ck.sli false 0 5 1 (Go.RX.E.var 6) [{ ck := Go.RX.CK.int (Go.IntKind.u8), w := 1, a := Go.RX.E.avar 0 }]]) ({ b := 0, v := 1, i := 7, a := 1, bo := 0, p := 0, r := 0 }) Tryz.f15
def st_rl4 (P : Program) (Post : Value → List HP → Prop) (x0 : Int) (x1 : Int) (x2 : Int) (x3 : Int) (x4 : Int) (x5 : Int) (x6 : Int) (_ : Nat → Int) (_ : V1) : Prop :=
∀ _ : Nat, ∀ _ : Nat, ∀ _ : Nat, ∀ _ : Nat, Fork ((x2 = 0) ∧ (x3 = 0)) (
  Fork (x4 = 0) (
    Fork (x5 = 0) (
      Need (0 ≤ x6) (
      Fork (0 < x6) (
        Post (.string ⟨#[]⟩) []) (
        ∀ _ : Nat, ∃ post, Meets P 43 [.int .u64 (IntKind.wrap .u64 x0)] [] post ∧
        ∀ x hs, post x hs → ∃ A1 : (Nat → Int), x = .string ⟨(strD A1).toArray⟩ ∧ hs = [] ∧
        Need (0 ≤ (A1 0)) (
        Need (((A1 0) + 1) ≤ 9223372036854775807) (
        ∃ post, Meets P 43 [.int .u64 (IntKind.wrap .u64 x1)] [] post ∧
        ∀ x hs, post x hs → ∃ A2 : (Nat → Int), x = .string ⟨(strD A2).toArray⟩ ∧ hs = [] ∧
        Need (0 ≤ ((A1 0) + 1)) (
        Need (0 ≤ (A2 0)) (
        Need ((((A1 0) + 1) + (A2 0)) ≤ 9223372036854775807) (
        Need (0 ≤ (((A1 0) + 1) + (A2 0))) (
        Need ((5 + (((A1 0) + 1) + (A2 0))) ≤ 9223372036854775807) (
        Post (.string ⟨(strD (catF (rowLF [5, 104, 97, 110, 103, 32]) (catF (catF A1 (rowLF [1, 47])) A2))).toArray⟩) [])))))))))) (
      Post (.string ⟨#[]⟩) [])) (
    Post (.string ⟨#[]⟩) [])) (
  Post (.string ⟨#[]⟩) [])
theorem vc_rl4 (P : Program) (Post : Value → List HP → Prop) (x0 : Int) (x1 : Int) (x2 : Int) (x3 : Int) (x4 : Int) (x5 : Int) (x6 : Int) (A0 : Nat → Int) (v0 : V1) (L : Nat → LC) : VC P (fun v _ => Post v []) fm_rl4 { iv := [x0, x1, x2, x3, x4, x5, x6], av := [A0], bo := [], bv := [], vv := [v0] } L = st_rl4 P Post x0 x1 x2 x3 x4 x5 x6 A0 v0 := by kernel_rfl
theorem run_rl4 : runF cxR1 15 ([Go.RX.SV.agg [Go.RX.SV.int (Go.IntKind.u8) (Go.RX.E.lit 4), Go.RX.SV.int (Go.IntKind.u8) (Go.RX.E.var 0), Go.RX.SV.int (Go.IntKind.u8) (Go.RX.E.var 1), Go.RX.SV.int (Go.IntKind.u8) (Go.RX.E.var 2), Go.RX.SV.int (Go.IntKind.u8) (Go.RX.E.var 3), Go.RX.SV.int (Go.IntKind.i64) (Go.RX.E.var 4), Go.RX.SV.int (Go.IntKind.u64) (Go.RX.E.var 5), Go.RX.SV.vv 0]]) ([Go.RX.Ck.sli false 0 5 1 (Go.RX.E.var 6) [{ ck := Go.RX.CK.int (Go.IntKind.u8), w := 1, a := Go.RX.E.avar 0 }]]) ({ b := 0, v := 1, i := 7, a := 1, bo := 0, p := 0, r := 0 }) Tryz.f15 = fm_rl4 := rfl
noncomputable def fm_rl5 : F := runF cxR1 15 ([Go.RX.SV.agg [Go.RX.SV.int (Go.IntKind.u8) (Go.RX.E.lit 5), Go.RX.SV.int (Go.IntKind.u8) (Go.RX.E.var 0), Go.RX.SV.int (Go.IntKind.u8) (Go.RX.E.var 1), Go.RX.SV.int (Go.IntKind.u8) (Go.RX.E.var 2), Go.RX.SV.int (Go.IntKind.u8) (Go.RX.E.var 3), Go.RX.SV.int (Go.IntKind.i64) (Go.RX.E.var 4), Go.RX.SV.int (Go.IntKind.u64) (Go.RX.E.var 5), Go.RX.SV.vv 0]]) ([Go.RX.Ck.sli false 0 5 1 (Go.RX.E.var 6) [{ ck := Go.RX.CK.int (Go.IntKind.u8), w := 1, a := Go.RX.E.avar 0 }]]) ({ b := 0, v := 1, i := 7, a := 1, bo := 0, p := 0, r := 0 }) Tryz.f15
def st_rl5 (P : Program) (Post : Value → List HP → Prop) (x0 : Int) (x1 : Int) (x2 : Int) (x3 : Int) (x4 : Int) (x5 : Int) (x6 : Int) (_ : Nat → Int) (_ : V1) : Prop :=
∀ _ : Nat, ∀ _ : Nat, ∀ _ : Nat, ∀ _ : Nat, Fork ((x0 = 0) ∧ (x1 = 0)) (
  Fork ((x2 = 0) ∧ (x3 = 0)) (
    Fork (x5 = 0) (
      Need (0 ≤ x6) (
      Fork (0 < x6) (
        Post (.string ⟨#[]⟩) []) (
        ∃ post, Meets P 42 [.int .i64 x4] [] post ∧
        ∀ x hs, post x hs → ∃ A1 : (Nat → Int), x = .string ⟨(strD A1).toArray⟩ ∧ hs = [] ∧
        Need (0 ≤ (A1 0)) (
        Need ((5 + (A1 0)) ≤ 9223372036854775807) (
        Post (.string ⟨(strD (catF (rowLF [5, 116, 105, 99, 107, 32]) A1)).toArray⟩) []))))) (
      Post (.string ⟨#[]⟩) [])) (
    Post (.string ⟨#[]⟩) [])) (
  Post (.string ⟨#[]⟩) [])
theorem vc_rl5 (P : Program) (Post : Value → List HP → Prop) (x0 : Int) (x1 : Int) (x2 : Int) (x3 : Int) (x4 : Int) (x5 : Int) (x6 : Int) (A0 : Nat → Int) (v0 : V1) (L : Nat → LC) : VC P (fun v _ => Post v []) fm_rl5 { iv := [x0, x1, x2, x3, x4, x5, x6], av := [A0], bo := [], bv := [], vv := [v0] } L = st_rl5 P Post x0 x1 x2 x3 x4 x5 x6 A0 v0 := by kernel_rfl
theorem run_rl5 : runF cxR1 15 ([Go.RX.SV.agg [Go.RX.SV.int (Go.IntKind.u8) (Go.RX.E.lit 5), Go.RX.SV.int (Go.IntKind.u8) (Go.RX.E.var 0), Go.RX.SV.int (Go.IntKind.u8) (Go.RX.E.var 1), Go.RX.SV.int (Go.IntKind.u8) (Go.RX.E.var 2), Go.RX.SV.int (Go.IntKind.u8) (Go.RX.E.var 3), Go.RX.SV.int (Go.IntKind.i64) (Go.RX.E.var 4), Go.RX.SV.int (Go.IntKind.u64) (Go.RX.E.var 5), Go.RX.SV.vv 0]]) ([Go.RX.Ck.sli false 0 5 1 (Go.RX.E.var 6) [{ ck := Go.RX.CK.int (Go.IntKind.u8), w := 1, a := Go.RX.E.avar 0 }]]) ({ b := 0, v := 1, i := 7, a := 1, bo := 0, p := 0, r := 0 }) Tryz.f15 = fm_rl5 := rfl
noncomputable def fm_rl6 : F := runF cxR1 15 ([Go.RX.SV.agg [Go.RX.SV.int (Go.IntKind.u8) (Go.RX.E.lit 6), Go.RX.SV.int (Go.IntKind.u8) (Go.RX.E.var 0), Go.RX.SV.int (Go.IntKind.u8) (Go.RX.E.var 1), Go.RX.SV.int (Go.IntKind.u8) (Go.RX.E.var 2), Go.RX.SV.int (Go.IntKind.u8) (Go.RX.E.var 3), Go.RX.SV.int (Go.IntKind.i64) (Go.RX.E.var 4), Go.RX.SV.int (Go.IntKind.u64) (Go.RX.E.var 5), Go.RX.SV.vv 0]]) ([Go.RX.Ck.sli false 0 5 1 (Go.RX.E.var 6) [{ ck := Go.RX.CK.int (Go.IntKind.u8), w := 1, a := Go.RX.E.avar 0 }]]) ({ b := 0, v := 1, i := 7, a := 1, bo := 0, p := 0, r := 0 }) Tryz.f15
def st_rl6 (P : Program) (Post : Value → List HP → Prop) (x0 : Int) (x1 : Int) (x2 : Int) (x3 : Int) (x4 : Int) (x5 : Int) (x6 : Int) (_ : Nat → Int) (_ : V1) : Prop :=
∀ _ : Nat, ∀ _ : Nat, ∀ _ : Nat, ∀ _ : Nat, Fork ((x0 = 0) ∧ (x1 = 0)) (
  Fork ((x2 = 0) ∧ (x3 = 0)) (
    Fork (x5 = 0) (
      Need (0 ≤ x6) (
      Fork (0 < x6) (
        Post (.string ⟨#[]⟩) []) (
        ∃ post, Meets P 42 [.int .i64 x4] [] post ∧
        ∀ x hs, post x hs → ∃ A1 : (Nat → Int), x = .string ⟨(strD A1).toArray⟩ ∧ hs = [] ∧
        Need (0 ≤ (A1 0)) (
        Need ((8 + (A1 0)) ≤ 9223372036854775807) (
        Post (.string ⟨(strD (catF (rowLF [8, 100, 101, 108, 105, 118, 101, 114, 32]) A1)).toArray⟩) []))))) (
      Post (.string ⟨#[]⟩) [])) (
    Post (.string ⟨#[]⟩) [])) (
  Post (.string ⟨#[]⟩) [])
theorem vc_rl6 (P : Program) (Post : Value → List HP → Prop) (x0 : Int) (x1 : Int) (x2 : Int) (x3 : Int) (x4 : Int) (x5 : Int) (x6 : Int) (A0 : Nat → Int) (v0 : V1) (L : Nat → LC) : VC P (fun v _ => Post v []) fm_rl6 { iv := [x0, x1, x2, x3, x4, x5, x6], av := [A0], bo := [], bv := [], vv := [v0] } L = st_rl6 P Post x0 x1 x2 x3 x4 x5 x6 A0 v0 := by kernel_rfl
theorem run_rl6 : runF cxR1 15 ([Go.RX.SV.agg [Go.RX.SV.int (Go.IntKind.u8) (Go.RX.E.lit 6), Go.RX.SV.int (Go.IntKind.u8) (Go.RX.E.var 0), Go.RX.SV.int (Go.IntKind.u8) (Go.RX.E.var 1), Go.RX.SV.int (Go.IntKind.u8) (Go.RX.E.var 2), Go.RX.SV.int (Go.IntKind.u8) (Go.RX.E.var 3), Go.RX.SV.int (Go.IntKind.i64) (Go.RX.E.var 4), Go.RX.SV.int (Go.IntKind.u64) (Go.RX.E.var 5), Go.RX.SV.vv 0]]) ([Go.RX.Ck.sli false 0 5 1 (Go.RX.E.var 6) [{ ck := Go.RX.CK.int (Go.IntKind.u8), w := 1, a := Go.RX.E.avar 0 }]]) ({ b := 0, v := 1, i := 7, a := 1, bo := 0, p := 0, r := 0 }) Tryz.f15 = fm_rl6 := rfl
noncomputable def fm_rl7 : F := runF cxR1 15 ([Go.RX.SV.agg [Go.RX.SV.int (Go.IntKind.u8) (Go.RX.E.lit 7), Go.RX.SV.int (Go.IntKind.u8) (Go.RX.E.var 0), Go.RX.SV.int (Go.IntKind.u8) (Go.RX.E.var 1), Go.RX.SV.int (Go.IntKind.u8) (Go.RX.E.var 2), Go.RX.SV.int (Go.IntKind.u8) (Go.RX.E.var 3), Go.RX.SV.int (Go.IntKind.i64) (Go.RX.E.var 4), Go.RX.SV.int (Go.IntKind.u64) (Go.RX.E.var 5), Go.RX.SV.vv 0]]) ([Go.RX.Ck.sli false 0 5 1 (Go.RX.E.var 6) [{ ck := Go.RX.CK.int (Go.IntKind.u8), w := 1, a := Go.RX.E.avar 0 }]]) ({ b := 0, v := 1, i := 7, a := 1, bo := 0, p := 0, r := 0 }) Tryz.f15
def st_rl7 (P : Program) (Post : Value → List HP → Prop) (x0 : Int) (x1 : Int) (x2 : Int) (x3 : Int) (x4 : Int) (x5 : Int) (x6 : Int) (_ : Nat → Int) (_ : V1) : Prop :=
∀ _ : Nat, ∀ _ : Nat, ∀ _ : Nat, ∀ _ : Nat, Fork ((x0 = 0) ∧ (x1 = 0)) (
  Fork ((x2 = 0) ∧ (x3 = 0)) (
    Fork (x5 = 0) (
      Need (0 ≤ x6) (
      Fork (0 < x6) (
        Post (.string ⟨#[]⟩) []) (
        ∃ post, Meets P 42 [.int .i64 x4] [] post ∧
        ∀ x hs, post x hs → ∃ A1 : (Nat → Int), x = .string ⟨(strD A1).toArray⟩ ∧ hs = [] ∧
        Need (0 ≤ (A1 0)) (
        Need ((5 + (A1 0)) ≤ 9223372036854775807) (
        Post (.string ⟨(strD (catF (rowLF [5, 100, 114, 111, 112, 32]) A1)).toArray⟩) []))))) (
      Post (.string ⟨#[]⟩) [])) (
    Post (.string ⟨#[]⟩) [])) (
  Post (.string ⟨#[]⟩) [])
theorem vc_rl7 (P : Program) (Post : Value → List HP → Prop) (x0 : Int) (x1 : Int) (x2 : Int) (x3 : Int) (x4 : Int) (x5 : Int) (x6 : Int) (A0 : Nat → Int) (v0 : V1) (L : Nat → LC) : VC P (fun v _ => Post v []) fm_rl7 { iv := [x0, x1, x2, x3, x4, x5, x6], av := [A0], bo := [], bv := [], vv := [v0] } L = st_rl7 P Post x0 x1 x2 x3 x4 x5 x6 A0 v0 := by kernel_rfl
theorem run_rl7 : runF cxR1 15 ([Go.RX.SV.agg [Go.RX.SV.int (Go.IntKind.u8) (Go.RX.E.lit 7), Go.RX.SV.int (Go.IntKind.u8) (Go.RX.E.var 0), Go.RX.SV.int (Go.IntKind.u8) (Go.RX.E.var 1), Go.RX.SV.int (Go.IntKind.u8) (Go.RX.E.var 2), Go.RX.SV.int (Go.IntKind.u8) (Go.RX.E.var 3), Go.RX.SV.int (Go.IntKind.i64) (Go.RX.E.var 4), Go.RX.SV.int (Go.IntKind.u64) (Go.RX.E.var 5), Go.RX.SV.vv 0]]) ([Go.RX.Ck.sli false 0 5 1 (Go.RX.E.var 6) [{ ck := Go.RX.CK.int (Go.IntKind.u8), w := 1, a := Go.RX.E.avar 0 }]]) ({ b := 0, v := 1, i := 7, a := 1, bo := 0, p := 0, r := 0 }) Tryz.f15 = fm_rl7 := rfl
noncomputable def fm_rl8 : F := runF cxR1 15 ([Go.RX.SV.agg [Go.RX.SV.int (Go.IntKind.u8) (Go.RX.E.lit 8), Go.RX.SV.int (Go.IntKind.u8) (Go.RX.E.var 0), Go.RX.SV.int (Go.IntKind.u8) (Go.RX.E.var 1), Go.RX.SV.int (Go.IntKind.u8) (Go.RX.E.var 2), Go.RX.SV.int (Go.IntKind.u8) (Go.RX.E.var 3), Go.RX.SV.int (Go.IntKind.i64) (Go.RX.E.var 4), Go.RX.SV.int (Go.IntKind.u64) (Go.RX.E.var 5), Go.RX.SV.vv 0]]) ([Go.RX.Ck.sli false 0 5 1 (Go.RX.E.var 6) [{ ck := Go.RX.CK.int (Go.IntKind.u8), w := 1, a := Go.RX.E.avar 0 }]]) ({ b := 0, v := 1, i := 7, a := 1, bo := 0, p := 0, r := 0 }) Tryz.f15
def st_rl8 (P : Program) (Post : Value → List HP → Prop) (x0 : Int) (x1 : Int) (x2 : Int) (x3 : Int) (x4 : Int) (x5 : Int) (x6 : Int) (_ : Nat → Int) (_ : V1) : Prop :=
∀ _ : Nat, ∀ _ : Nat, ∀ _ : Nat, ∀ _ : Nat, Fork ((x0 = 0) ∧ (x1 = 0)) (
  Fork ((x2 = 0) ∧ (x3 = 0)) (
    Fork (x5 = 0) (
      Need (0 ≤ x6) (
      Fork (0 < x6) (
        Post (.string ⟨#[]⟩) []) (
        ∃ post, Meets P 42 [.int .i64 x4] [] post ∧
        ∀ x hs, post x hs → ∃ A1 : (Nat → Int), x = .string ⟨(strD A1).toArray⟩ ∧ hs = [] ∧
        Need (0 ≤ (A1 0)) (
        Need ((7 + (A1 0)) ≤ 9223372036854775807) (
        Post (.string ⟨(strD (catF (rowLF [7, 100, 111, 117, 98, 108, 101, 32]) A1)).toArray⟩) []))))) (
      Post (.string ⟨#[]⟩) [])) (
    Post (.string ⟨#[]⟩) [])) (
  Post (.string ⟨#[]⟩) [])
theorem vc_rl8 (P : Program) (Post : Value → List HP → Prop) (x0 : Int) (x1 : Int) (x2 : Int) (x3 : Int) (x4 : Int) (x5 : Int) (x6 : Int) (A0 : Nat → Int) (v0 : V1) (L : Nat → LC) : VC P (fun v _ => Post v []) fm_rl8 { iv := [x0, x1, x2, x3, x4, x5, x6], av := [A0], bo := [], bv := [], vv := [v0] } L = st_rl8 P Post x0 x1 x2 x3 x4 x5 x6 A0 v0 := by kernel_rfl
theorem run_rl8 : runF cxR1 15 ([Go.RX.SV.agg [Go.RX.SV.int (Go.IntKind.u8) (Go.RX.E.lit 8), Go.RX.SV.int (Go.IntKind.u8) (Go.RX.E.var 0), Go.RX.SV.int (Go.IntKind.u8) (Go.RX.E.var 1), Go.RX.SV.int (Go.IntKind.u8) (Go.RX.E.var 2), Go.RX.SV.int (Go.IntKind.u8) (Go.RX.E.var 3), Go.RX.SV.int (Go.IntKind.i64) (Go.RX.E.var 4), Go.RX.SV.int (Go.IntKind.u64) (Go.RX.E.var 5), Go.RX.SV.vv 0]]) ([Go.RX.Ck.sli false 0 5 1 (Go.RX.E.var 6) [{ ck := Go.RX.CK.int (Go.IntKind.u8), w := 1, a := Go.RX.E.avar 0 }]]) ({ b := 0, v := 1, i := 7, a := 1, bo := 0, p := 0, r := 0 }) Tryz.f15 = fm_rl8 := rfl
noncomputable def fm_rl9 : F := runF cxR1 15 ([Go.RX.SV.agg [Go.RX.SV.int (Go.IntKind.u8) (Go.RX.E.lit 9), Go.RX.SV.int (Go.IntKind.u8) (Go.RX.E.var 0), Go.RX.SV.int (Go.IntKind.u8) (Go.RX.E.var 1), Go.RX.SV.int (Go.IntKind.u8) (Go.RX.E.var 2), Go.RX.SV.int (Go.IntKind.u8) (Go.RX.E.var 3), Go.RX.SV.int (Go.IntKind.i64) (Go.RX.E.var 4), Go.RX.SV.int (Go.IntKind.u64) (Go.RX.E.var 5), Go.RX.SV.vv 0]]) ([Go.RX.Ck.sli false 0 5 1 (Go.RX.E.var 6) [{ ck := Go.RX.CK.int (Go.IntKind.u8), w := 1, a := Go.RX.E.avar 0 }]]) ({ b := 0, v := 1, i := 7, a := 1, bo := 0, p := 0, r := 0 }) Tryz.f15
def st_rl9 (P : Program) (Post : Value → List HP → Prop) (x0 : Int) (x1 : Int) (x2 : Int) (x3 : Int) (x4 : Int) (x5 : Int) (x6 : Int) (_ : Nat → Int) (_ : V1) : Prop :=
∀ _ : Nat, ∀ _ : Nat, ∀ _ : Nat, ∀ _ : Nat, Fork ((x0 = 0) ∧ (x1 = 0)) (
  Fork ((x2 = 0) ∧ (x3 = 0)) (
    Need (0 ≤ x6) (
    Fork (0 < x6) (
      Post (.string ⟨#[]⟩) []) (
      ∃ post, Meets P 42 [.int .i64 x4] [] post ∧
      ∀ x hs, post x hs → ∃ A1 : (Nat → Int), x = .string ⟨(strD A1).toArray⟩ ∧ hs = [] ∧
      Need (0 ≤ (A1 0)) (
      Need ((7 + (A1 0)) ≤ 9223372036854775807) (
      Need (0 ≤ (7 + (A1 0))) (
      Need (((7 + (A1 0)) + 1) ≤ 9223372036854775807) (
      ∃ post, Meets P 43 [.int .u64 x5] [] post ∧
      ∀ x hs, post x hs → ∃ A2 : (Nat → Int), x = .string ⟨(strD A2).toArray⟩ ∧ hs = [] ∧
      Need (0 ≤ ((7 + (A1 0)) + 1)) (
      Need (0 ≤ (A2 0)) (
      Need ((((7 + (A1 0)) + 1) + (A2 0)) ≤ 9223372036854775807) (
      Post (.string ⟨(strD (catF (catF (catF (rowLF [7, 116, 97, 109, 112, 101, 114, 32]) A1) (rowLF [1, 32])) A2)).toArray⟩) [])))))))))) (
    Post (.string ⟨#[]⟩) [])) (
  Post (.string ⟨#[]⟩) [])
theorem vc_rl9 (P : Program) (Post : Value → List HP → Prop) (x0 : Int) (x1 : Int) (x2 : Int) (x3 : Int) (x4 : Int) (x5 : Int) (x6 : Int) (A0 : Nat → Int) (v0 : V1) (L : Nat → LC) : VC P (fun v _ => Post v []) fm_rl9 { iv := [x0, x1, x2, x3, x4, x5, x6], av := [A0], bo := [], bv := [], vv := [v0] } L = st_rl9 P Post x0 x1 x2 x3 x4 x5 x6 A0 v0 := by kernel_rfl
theorem run_rl9 : runF cxR1 15 ([Go.RX.SV.agg [Go.RX.SV.int (Go.IntKind.u8) (Go.RX.E.lit 9), Go.RX.SV.int (Go.IntKind.u8) (Go.RX.E.var 0), Go.RX.SV.int (Go.IntKind.u8) (Go.RX.E.var 1), Go.RX.SV.int (Go.IntKind.u8) (Go.RX.E.var 2), Go.RX.SV.int (Go.IntKind.u8) (Go.RX.E.var 3), Go.RX.SV.int (Go.IntKind.i64) (Go.RX.E.var 4), Go.RX.SV.int (Go.IntKind.u64) (Go.RX.E.var 5), Go.RX.SV.vv 0]]) ([Go.RX.Ck.sli false 0 5 1 (Go.RX.E.var 6) [{ ck := Go.RX.CK.int (Go.IntKind.u8), w := 1, a := Go.RX.E.avar 0 }]]) ({ b := 0, v := 1, i := 7, a := 1, bo := 0, p := 0, r := 0 }) Tryz.f15 = fm_rl9 := rfl
noncomputable def fm_rl10 : F := runF cxR1 15 ([Go.RX.SV.agg [Go.RX.SV.int (Go.IntKind.u8) (Go.RX.E.lit 10), Go.RX.SV.int (Go.IntKind.u8) (Go.RX.E.var 0), Go.RX.SV.int (Go.IntKind.u8) (Go.RX.E.var 1), Go.RX.SV.int (Go.IntKind.u8) (Go.RX.E.var 2), Go.RX.SV.int (Go.IntKind.u8) (Go.RX.E.var 3), Go.RX.SV.int (Go.IntKind.i64) (Go.RX.E.var 4), Go.RX.SV.int (Go.IntKind.u64) (Go.RX.E.var 5), Go.RX.SV.vv 0]]) ([Go.RX.Ck.sli false 0 5 1 (Go.RX.E.var 6) [{ ck := Go.RX.CK.int (Go.IntKind.u8), w := 1, a := Go.RX.E.avar 0 }]]) ({ b := 0, v := 1, i := 7, a := 1, bo := 0, p := 0, r := 0 }) Tryz.f15
def st_rl10 (P : Program) (Post : Value → List HP → Prop) (x0 : Int) (x1 : Int) (x2 : Int) (x3 : Int) (x4 : Int) (x5 : Int) (x6 : Int) (A0 : Nat → Int) (v0 : V1) : Prop :=
∀ _ : Nat, ∀ _ : Nat, ∀ _ : Nat, ∀ _ : Nat, Fork ((x2 = 0) ∧ (x3 = 0)) (
  Fork (x4 = 0) (
    Fork (x5 = 0) (
      ∀ _ : Nat, ∃ post, Meets P 43 [.int .u64 (IntKind.wrap .u64 x0)] [] post ∧
      ∀ x hs, post x hs → ∃ A1 : (Nat → Int), x = .string ⟨(strD A1).toArray⟩ ∧ hs = [] ∧
      Need (0 ≤ (A1 0)) (
      Need (((A1 0) + 1) ≤ 9223372036854775807) (
      ∃ post, Meets P 43 [.int .u64 (IntKind.wrap .u64 x1)] [] post ∧
      ∀ x hs, post x hs → ∃ A2 : (Nat → Int), x = .string ⟨(strD A2).toArray⟩ ∧ hs = [] ∧
      Need (0 ≤ ((A1 0) + 1)) (
      Need (0 ≤ (A2 0)) (
      Need ((((A1 0) + 1) + (A2 0)) ≤ 9223372036854775807) (
      Need (0 ≤ (((A1 0) + 1) + (A2 0))) (
      Need ((7 + (((A1 0) + 1) + (A2 0))) ≤ 9223372036854775807) (
      Need (0 ≤ (7 + (((A1 0) + 1) + (A2 0)))) (
      Need (((7 + (((A1 0) + 1) + (A2 0))) + 1) ≤ 9223372036854775807) (
      ∃ post, Meets P 44 [v0.v] [sliHP false 5 1 v0.v (Int.toNat x6) (tabL (Int.toNat x6) [colI .u8 1 A0])] post ∧
      ∀ x hs, post x hs → ∃ A3 : (Nat → Int), x = .string ⟨(strD A3).toArray⟩ ∧ hs = [sliHP false 5 1 v0.v (Int.toNat x6) (tabL (Int.toNat x6) [colI .u8 1 A0])] ∧
      Need (0 ≤ ((7 + (((A1 0) + 1) + (A2 0))) + 1)) (
      Need (0 ≤ (A3 0)) (
      Need ((((7 + (((A1 0) + 1) + (A2 0))) + 1) + (A3 0)) ≤ 9223372036854775807) (
      Post (.string ⟨(strD (catF (catF (catF (rowLF [7, 105, 110, 106, 101, 99, 116, 32]) (catF (catF A1 (rowLF [1, 47])) A2)) (rowLF [1, 32])) A3)).toArray⟩) []))))))))))))) (
      Post (.string ⟨#[]⟩) [])) (
    Post (.string ⟨#[]⟩) [])) (
  Post (.string ⟨#[]⟩) [])
theorem vc_rl10 (P : Program) (Post : Value → List HP → Prop) (x0 : Int) (x1 : Int) (x2 : Int) (x3 : Int) (x4 : Int) (x5 : Int) (x6 : Int) (A0 : Nat → Int) (v0 : V1) (L : Nat → LC) : VC P (fun v _ => Post v []) fm_rl10 { iv := [x0, x1, x2, x3, x4, x5, x6], av := [A0], bo := [], bv := [], vv := [v0] } L = st_rl10 P Post x0 x1 x2 x3 x4 x5 x6 A0 v0 := by kernel_rfl
theorem run_rl10 : runF cxR1 15 ([Go.RX.SV.agg [Go.RX.SV.int (Go.IntKind.u8) (Go.RX.E.lit 10), Go.RX.SV.int (Go.IntKind.u8) (Go.RX.E.var 0), Go.RX.SV.int (Go.IntKind.u8) (Go.RX.E.var 1), Go.RX.SV.int (Go.IntKind.u8) (Go.RX.E.var 2), Go.RX.SV.int (Go.IntKind.u8) (Go.RX.E.var 3), Go.RX.SV.int (Go.IntKind.i64) (Go.RX.E.var 4), Go.RX.SV.int (Go.IntKind.u64) (Go.RX.E.var 5), Go.RX.SV.vv 0]]) ([Go.RX.Ck.sli false 0 5 1 (Go.RX.E.var 6) [{ ck := Go.RX.CK.int (Go.IntKind.u8), w := 1, a := Go.RX.E.avar 0 }]]) ({ b := 0, v := 1, i := 7, a := 1, bo := 0, p := 0, r := 0 }) Tryz.f15 = fm_rl10 := rfl
noncomputable def fm_rl11 : F := runF cxR1 15 ([Go.RX.SV.agg [Go.RX.SV.int (Go.IntKind.u8) (Go.RX.E.lit 11), Go.RX.SV.int (Go.IntKind.u8) (Go.RX.E.var 0), Go.RX.SV.int (Go.IntKind.u8) (Go.RX.E.var 1), Go.RX.SV.int (Go.IntKind.u8) (Go.RX.E.var 2), Go.RX.SV.int (Go.IntKind.u8) (Go.RX.E.var 3), Go.RX.SV.int (Go.IntKind.i64) (Go.RX.E.var 4), Go.RX.SV.int (Go.IntKind.u64) (Go.RX.E.var 5), Go.RX.SV.vv 0]]) ([Go.RX.Ck.sli false 0 5 1 (Go.RX.E.var 6) [{ ck := Go.RX.CK.int (Go.IntKind.u8), w := 1, a := Go.RX.E.avar 0 }]]) ({ b := 0, v := 1, i := 7, a := 1, bo := 0, p := 0, r := 0 }) Tryz.f15
def st_rl11 (P : Program) (Post : Value → List HP → Prop) (x0 : Int) (x1 : Int) (x2 : Int) (x3 : Int) (x4 : Int) (x5 : Int) (x6 : Int) (_ : Nat → Int) (_ : V1) : Prop :=
∀ _ : Nat, ∀ _ : Nat, ∀ _ : Nat, ∀ _ : Nat, Fork ((x2 = 0) ∧ (x3 = 0)) (
  Fork (x4 = 0) (
    Fork (x5 = 0) (
      Need (0 ≤ x6) (
      Fork (0 < x6) (
        Post (.string ⟨#[]⟩) []) (
        ∀ _ : Nat, ∃ post, Meets P 43 [.int .u64 (IntKind.wrap .u64 x0)] [] post ∧
        ∀ x hs, post x hs → ∃ A1 : (Nat → Int), x = .string ⟨(strD A1).toArray⟩ ∧ hs = [] ∧
        Need (0 ≤ (A1 0)) (
        Need (((A1 0) + 1) ≤ 9223372036854775807) (
        ∃ post, Meets P 43 [.int .u64 (IntKind.wrap .u64 x1)] [] post ∧
        ∀ x hs, post x hs → ∃ A2 : (Nat → Int), x = .string ⟨(strD A2).toArray⟩ ∧ hs = [] ∧
        Need (0 ≤ ((A1 0) + 1)) (
        Need (0 ≤ (A2 0)) (
        Need ((((A1 0) + 1) + (A2 0)) ≤ 9223372036854775807) (
        Need (0 ≤ (((A1 0) + 1) + (A2 0))) (
        Need ((7 + (((A1 0) + 1) + (A2 0))) ≤ 9223372036854775807) (
        Post (.string ⟨(strD (catF (rowLF [7, 99, 114, 101, 97, 116, 101, 32]) (catF (catF A1 (rowLF [1, 47])) A2))).toArray⟩) [])))))))))) (
      Post (.string ⟨#[]⟩) [])) (
    Post (.string ⟨#[]⟩) [])) (
  Post (.string ⟨#[]⟩) [])
theorem vc_rl11 (P : Program) (Post : Value → List HP → Prop) (x0 : Int) (x1 : Int) (x2 : Int) (x3 : Int) (x4 : Int) (x5 : Int) (x6 : Int) (A0 : Nat → Int) (v0 : V1) (L : Nat → LC) : VC P (fun v _ => Post v []) fm_rl11 { iv := [x0, x1, x2, x3, x4, x5, x6], av := [A0], bo := [], bv := [], vv := [v0] } L = st_rl11 P Post x0 x1 x2 x3 x4 x5 x6 A0 v0 := by kernel_rfl
theorem run_rl11 : runF cxR1 15 ([Go.RX.SV.agg [Go.RX.SV.int (Go.IntKind.u8) (Go.RX.E.lit 11), Go.RX.SV.int (Go.IntKind.u8) (Go.RX.E.var 0), Go.RX.SV.int (Go.IntKind.u8) (Go.RX.E.var 1), Go.RX.SV.int (Go.IntKind.u8) (Go.RX.E.var 2), Go.RX.SV.int (Go.IntKind.u8) (Go.RX.E.var 3), Go.RX.SV.int (Go.IntKind.i64) (Go.RX.E.var 4), Go.RX.SV.int (Go.IntKind.u64) (Go.RX.E.var 5), Go.RX.SV.vv 0]]) ([Go.RX.Ck.sli false 0 5 1 (Go.RX.E.var 6) [{ ck := Go.RX.CK.int (Go.IntKind.u8), w := 1, a := Go.RX.E.avar 0 }]]) ({ b := 0, v := 1, i := 7, a := 1, bo := 0, p := 0, r := 0 }) Tryz.f15 = fm_rl11 := rfl
noncomputable def fm_rl12 : F := runF cxR1 15 ([Go.RX.SV.agg [Go.RX.SV.int (Go.IntKind.u8) (Go.RX.E.lit 12), Go.RX.SV.int (Go.IntKind.u8) (Go.RX.E.var 0), Go.RX.SV.int (Go.IntKind.u8) (Go.RX.E.var 1), Go.RX.SV.int (Go.IntKind.u8) (Go.RX.E.var 2), Go.RX.SV.int (Go.IntKind.u8) (Go.RX.E.var 3), Go.RX.SV.int (Go.IntKind.i64) (Go.RX.E.var 4), Go.RX.SV.int (Go.IntKind.u64) (Go.RX.E.var 5), Go.RX.SV.vv 0]]) ([Go.RX.Ck.sli false 0 5 1 (Go.RX.E.var 6) [{ ck := Go.RX.CK.int (Go.IntKind.u8), w := 1, a := Go.RX.E.avar 0 }]]) ({ b := 0, v := 1, i := 7, a := 1, bo := 0, p := 0, r := 0 }) Tryz.f15
def st_rl12 (P : Program) (Post : Value → List HP → Prop) (x0 : Int) (x1 : Int) (x2 : Int) (x3 : Int) (x4 : Int) (x5 : Int) (x6 : Int) (_ : Nat → Int) (_ : V1) : Prop :=
∀ _ : Nat, ∀ _ : Nat, ∀ _ : Nat, ∀ _ : Nat, Fork (x4 = 0) (
  Fork (x5 = 0) (
    Need (0 ≤ x6) (
    Fork (0 < x6) (
      Post (.string ⟨#[]⟩) []) (
      ∀ _ : Nat, ∃ post, Meets P 43 [.int .u64 (IntKind.wrap .u64 x0)] [] post ∧
      ∀ x hs, post x hs → ∃ A1 : (Nat → Int), x = .string ⟨(strD A1).toArray⟩ ∧ hs = [] ∧
      Need (0 ≤ (A1 0)) (
      Need (((A1 0) + 1) ≤ 9223372036854775807) (
      ∃ post, Meets P 43 [.int .u64 (IntKind.wrap .u64 x1)] [] post ∧
      ∀ x hs, post x hs → ∃ A2 : (Nat → Int), x = .string ⟨(strD A2).toArray⟩ ∧ hs = [] ∧
      Need (0 ≤ ((A1 0) + 1)) (
      Need (0 ≤ (A2 0)) (
      Need ((((A1 0) + 1) + (A2 0)) ≤ 9223372036854775807) (
      Need (0 ≤ (((A1 0) + 1) + (A2 0))) (
      Need ((4 + (((A1 0) + 1) + (A2 0))) ≤ 9223372036854775807) (
      Need (0 ≤ (4 + (((A1 0) + 1) + (A2 0)))) (
      Need (((4 + (((A1 0) + 1) + (A2 0))) + 1) ≤ 9223372036854775807) (
      ∀ _ : Nat, ∃ post, Meets P 43 [.int .u64 (IntKind.wrap .u64 x2)] [] post ∧
      ∀ x hs, post x hs → ∃ A3 : (Nat → Int), x = .string ⟨(strD A3).toArray⟩ ∧ hs = [] ∧
      Need (0 ≤ (A3 0)) (
      Need (((A3 0) + 1) ≤ 9223372036854775807) (
      ∃ post, Meets P 43 [.int .u64 (IntKind.wrap .u64 x3)] [] post ∧
      ∀ x hs, post x hs → ∃ A4 : (Nat → Int), x = .string ⟨(strD A4).toArray⟩ ∧ hs = [] ∧
      Need (0 ≤ ((A3 0) + 1)) (
      Need (0 ≤ (A4 0)) (
      Need ((((A3 0) + 1) + (A4 0)) ≤ 9223372036854775807) (
      Need (0 ≤ ((4 + (((A1 0) + 1) + (A2 0))) + 1)) (
      Need (0 ≤ (((A3 0) + 1) + (A4 0))) (
      Need ((((4 + (((A1 0) + 1) + (A2 0))) + 1) + (((A3 0) + 1) + (A4 0))) ≤ 9223372036854775807) (
      Post (.string ⟨(strD (catF (catF (catF (rowLF [4, 97, 100, 100, 32]) (catF (catF A1 (rowLF [1, 47])) A2)) (rowLF [1, 32])) (catF (catF A3 (rowLF [1, 47])) A4))).toArray⟩) [])))))))))))))))))))) (
    Post (.string ⟨#[]⟩) [])) (
  Post (.string ⟨#[]⟩) [])
theorem vc_rl12 (P : Program) (Post : Value → List HP → Prop) (x0 : Int) (x1 : Int) (x2 : Int) (x3 : Int) (x4 : Int) (x5 : Int) (x6 : Int) (A0 : Nat → Int) (v0 : V1) (L : Nat → LC) : VC P (fun v _ => Post v []) fm_rl12 { iv := [x0, x1, x2, x3, x4, x5, x6], av := [A0], bo := [], bv := [], vv := [v0] } L = st_rl12 P Post x0 x1 x2 x3 x4 x5 x6 A0 v0 := by kernel_rfl
theorem run_rl12 : runF cxR1 15 ([Go.RX.SV.agg [Go.RX.SV.int (Go.IntKind.u8) (Go.RX.E.lit 12), Go.RX.SV.int (Go.IntKind.u8) (Go.RX.E.var 0), Go.RX.SV.int (Go.IntKind.u8) (Go.RX.E.var 1), Go.RX.SV.int (Go.IntKind.u8) (Go.RX.E.var 2), Go.RX.SV.int (Go.IntKind.u8) (Go.RX.E.var 3), Go.RX.SV.int (Go.IntKind.i64) (Go.RX.E.var 4), Go.RX.SV.int (Go.IntKind.u64) (Go.RX.E.var 5), Go.RX.SV.vv 0]]) ([Go.RX.Ck.sli false 0 5 1 (Go.RX.E.var 6) [{ ck := Go.RX.CK.int (Go.IntKind.u8), w := 1, a := Go.RX.E.avar 0 }]]) ({ b := 0, v := 1, i := 7, a := 1, bo := 0, p := 0, r := 0 }) Tryz.f15 = fm_rl12 := rfl
noncomputable def fm_rl13 : F := runF cxR1 15 ([Go.RX.SV.agg [Go.RX.SV.int (Go.IntKind.u8) (Go.RX.E.lit 13), Go.RX.SV.int (Go.IntKind.u8) (Go.RX.E.var 0), Go.RX.SV.int (Go.IntKind.u8) (Go.RX.E.var 1), Go.RX.SV.int (Go.IntKind.u8) (Go.RX.E.var 2), Go.RX.SV.int (Go.IntKind.u8) (Go.RX.E.var 3), Go.RX.SV.int (Go.IntKind.i64) (Go.RX.E.var 4), Go.RX.SV.int (Go.IntKind.u64) (Go.RX.E.var 5), Go.RX.SV.vv 0]]) ([Go.RX.Ck.sli false 0 5 1 (Go.RX.E.var 6) [{ ck := Go.RX.CK.int (Go.IntKind.u8), w := 1, a := Go.RX.E.avar 0 }]]) ({ b := 0, v := 1, i := 7, a := 1, bo := 0, p := 0, r := 0 }) Tryz.f15
def st_rl13 (P : Program) (Post : Value → List HP → Prop) (x0 : Int) (x1 : Int) (x2 : Int) (x3 : Int) (x4 : Int) (x5 : Int) (x6 : Int) (_ : Nat → Int) (_ : V1) : Prop :=
∀ _ : Nat, ∀ _ : Nat, ∀ _ : Nat, ∀ _ : Nat, Fork (x4 = 0) (
  Fork (x5 = 0) (
    Need (0 ≤ x6) (
    Fork (0 < x6) (
      Post (.string ⟨#[]⟩) []) (
      ∀ _ : Nat, ∃ post, Meets P 43 [.int .u64 (IntKind.wrap .u64 x0)] [] post ∧
      ∀ x hs, post x hs → ∃ A1 : (Nat → Int), x = .string ⟨(strD A1).toArray⟩ ∧ hs = [] ∧
      Need (0 ≤ (A1 0)) (
      Need (((A1 0) + 1) ≤ 9223372036854775807) (
      ∃ post, Meets P 43 [.int .u64 (IntKind.wrap .u64 x1)] [] post ∧
      ∀ x hs, post x hs → ∃ A2 : (Nat → Int), x = .string ⟨(strD A2).toArray⟩ ∧ hs = [] ∧
      Need (0 ≤ ((A1 0) + 1)) (
      Need (0 ≤ (A2 0)) (
      Need ((((A1 0) + 1) + (A2 0)) ≤ 9223372036854775807) (
      Need (0 ≤ (((A1 0) + 1) + (A2 0))) (
      Need ((5 + (((A1 0) + 1) + (A2 0))) ≤ 9223372036854775807) (
      Need (0 ≤ (5 + (((A1 0) + 1) + (A2 0)))) (
      Need (((5 + (((A1 0) + 1) + (A2 0))) + 1) ≤ 9223372036854775807) (
      ∀ _ : Nat, ∃ post, Meets P 43 [.int .u64 (IntKind.wrap .u64 x2)] [] post ∧
      ∀ x hs, post x hs → ∃ A3 : (Nat → Int), x = .string ⟨(strD A3).toArray⟩ ∧ hs = [] ∧
      Need (0 ≤ (A3 0)) (
      Need (((A3 0) + 1) ≤ 9223372036854775807) (
      ∃ post, Meets P 43 [.int .u64 (IntKind.wrap .u64 x3)] [] post ∧
      ∀ x hs, post x hs → ∃ A4 : (Nat → Int), x = .string ⟨(strD A4).toArray⟩ ∧ hs = [] ∧
      Need (0 ≤ ((A3 0) + 1)) (
      Need (0 ≤ (A4 0)) (
      Need ((((A3 0) + 1) + (A4 0)) ≤ 9223372036854775807) (
      Need (0 ≤ ((5 + (((A1 0) + 1) + (A2 0))) + 1)) (
      Need (0 ≤ (((A3 0) + 1) + (A4 0))) (
      Need ((((5 + (((A1 0) + 1) + (A2 0))) + 1) + (((A3 0) + 1) + (A4 0))) ≤ 9223372036854775807) (
      Post (.string ⟨(strD (catF (catF (catF (rowLF [5, 107, 105, 99, 107, 32]) (catF (catF A1 (rowLF [1, 47])) A2)) (rowLF [1, 32])) (catF (catF A3 (rowLF [1, 47])) A4))).toArray⟩) [])))))))))))))))))))) (
    Post (.string ⟨#[]⟩) [])) (
  Post (.string ⟨#[]⟩) [])
theorem vc_rl13 (P : Program) (Post : Value → List HP → Prop) (x0 : Int) (x1 : Int) (x2 : Int) (x3 : Int) (x4 : Int) (x5 : Int) (x6 : Int) (A0 : Nat → Int) (v0 : V1) (L : Nat → LC) : VC P (fun v _ => Post v []) fm_rl13 { iv := [x0, x1, x2, x3, x4, x5, x6], av := [A0], bo := [], bv := [], vv := [v0] } L = st_rl13 P Post x0 x1 x2 x3 x4 x5 x6 A0 v0 := by kernel_rfl
theorem run_rl13 : runF cxR1 15 ([Go.RX.SV.agg [Go.RX.SV.int (Go.IntKind.u8) (Go.RX.E.lit 13), Go.RX.SV.int (Go.IntKind.u8) (Go.RX.E.var 0), Go.RX.SV.int (Go.IntKind.u8) (Go.RX.E.var 1), Go.RX.SV.int (Go.IntKind.u8) (Go.RX.E.var 2), Go.RX.SV.int (Go.IntKind.u8) (Go.RX.E.var 3), Go.RX.SV.int (Go.IntKind.i64) (Go.RX.E.var 4), Go.RX.SV.int (Go.IntKind.u64) (Go.RX.E.var 5), Go.RX.SV.vv 0]]) ([Go.RX.Ck.sli false 0 5 1 (Go.RX.E.var 6) [{ ck := Go.RX.CK.int (Go.IntKind.u8), w := 1, a := Go.RX.E.avar 0 }]]) ({ b := 0, v := 1, i := 7, a := 1, bo := 0, p := 0, r := 0 }) Tryz.f15 = fm_rl13 := rfl
noncomputable def fm_rl14 : F := runF cxR1 15 ([Go.RX.SV.agg [Go.RX.SV.int (Go.IntKind.u8) (Go.RX.E.lit 14), Go.RX.SV.int (Go.IntKind.u8) (Go.RX.E.var 0), Go.RX.SV.int (Go.IntKind.u8) (Go.RX.E.var 1), Go.RX.SV.int (Go.IntKind.u8) (Go.RX.E.var 2), Go.RX.SV.int (Go.IntKind.u8) (Go.RX.E.var 3), Go.RX.SV.int (Go.IntKind.i64) (Go.RX.E.var 4), Go.RX.SV.int (Go.IntKind.u64) (Go.RX.E.var 5), Go.RX.SV.vv 0]]) ([Go.RX.Ck.sli false 0 5 1 (Go.RX.E.var 6) [{ ck := Go.RX.CK.int (Go.IntKind.u8), w := 1, a := Go.RX.E.avar 0 }]]) ({ b := 0, v := 1, i := 7, a := 1, bo := 0, p := 0, r := 0 }) Tryz.f15
def st_rl14 (P : Program) (Post : Value → List HP → Prop) (x0 : Int) (x1 : Int) (x2 : Int) (x3 : Int) (x4 : Int) (x5 : Int) (x6 : Int) (_ : Nat → Int) (_ : V1) : Prop :=
∀ _ : Nat, ∀ _ : Nat, ∀ _ : Nat, ∀ _ : Nat, Fork ((x2 = 0) ∧ (x3 = 0)) (
  Fork (x4 = 0) (
    Fork (x5 = 0) (
      Need (0 ≤ x6) (
      Fork (0 < x6) (
        Post (.string ⟨#[]⟩) []) (
        ∀ _ : Nat, ∃ post, Meets P 43 [.int .u64 (IntKind.wrap .u64 x0)] [] post ∧
        ∀ x hs, post x hs → ∃ A1 : (Nat → Int), x = .string ⟨(strD A1).toArray⟩ ∧ hs = [] ∧
        Need (0 ≤ (A1 0)) (
        Need (((A1 0) + 1) ≤ 9223372036854775807) (
        ∃ post, Meets P 43 [.int .u64 (IntKind.wrap .u64 x1)] [] post ∧
        ∀ x hs, post x hs → ∃ A2 : (Nat → Int), x = .string ⟨(strD A2).toArray⟩ ∧ hs = [] ∧
        Need (0 ≤ ((A1 0) + 1)) (
        Need (0 ≤ (A2 0)) (
        Need ((((A1 0) + 1) + (A2 0)) ≤ 9223372036854775807) (
        Need (0 ≤ (((A1 0) + 1) + (A2 0))) (
        Need ((6 + (((A1 0) + 1) + (A2 0))) ≤ 9223372036854775807) (
        Post (.string ⟨(strD (catF (rowLF [6, 108, 101, 97, 118, 101, 32]) (catF (catF A1 (rowLF [1, 47])) A2))).toArray⟩) [])))))))))) (
      Post (.string ⟨#[]⟩) [])) (
    Post (.string ⟨#[]⟩) [])) (
  Post (.string ⟨#[]⟩) [])
theorem vc_rl14 (P : Program) (Post : Value → List HP → Prop) (x0 : Int) (x1 : Int) (x2 : Int) (x3 : Int) (x4 : Int) (x5 : Int) (x6 : Int) (A0 : Nat → Int) (v0 : V1) (L : Nat → LC) : VC P (fun v _ => Post v []) fm_rl14 { iv := [x0, x1, x2, x3, x4, x5, x6], av := [A0], bo := [], bv := [], vv := [v0] } L = st_rl14 P Post x0 x1 x2 x3 x4 x5 x6 A0 v0 := by kernel_rfl
theorem run_rl14 : runF cxR1 15 ([Go.RX.SV.agg [Go.RX.SV.int (Go.IntKind.u8) (Go.RX.E.lit 14), Go.RX.SV.int (Go.IntKind.u8) (Go.RX.E.var 0), Go.RX.SV.int (Go.IntKind.u8) (Go.RX.E.var 1), Go.RX.SV.int (Go.IntKind.u8) (Go.RX.E.var 2), Go.RX.SV.int (Go.IntKind.u8) (Go.RX.E.var 3), Go.RX.SV.int (Go.IntKind.i64) (Go.RX.E.var 4), Go.RX.SV.int (Go.IntKind.u64) (Go.RX.E.var 5), Go.RX.SV.vv 0]]) ([Go.RX.Ck.sli false 0 5 1 (Go.RX.E.var 6) [{ ck := Go.RX.CK.int (Go.IntKind.u8), w := 1, a := Go.RX.E.avar 0 }]]) ({ b := 0, v := 1, i := 7, a := 1, bo := 0, p := 0, r := 0 }) Tryz.f15 = fm_rl14 := rfl
noncomputable def fm_rl15 : F := runF cxR1 15 ([Go.RX.SV.agg [Go.RX.SV.int (Go.IntKind.u8) (Go.RX.E.lit 15), Go.RX.SV.int (Go.IntKind.u8) (Go.RX.E.var 0), Go.RX.SV.int (Go.IntKind.u8) (Go.RX.E.var 1), Go.RX.SV.int (Go.IntKind.u8) (Go.RX.E.var 2), Go.RX.SV.int (Go.IntKind.u8) (Go.RX.E.var 3), Go.RX.SV.int (Go.IntKind.i64) (Go.RX.E.var 4), Go.RX.SV.int (Go.IntKind.u64) (Go.RX.E.var 5), Go.RX.SV.vv 0]]) ([Go.RX.Ck.sli false 0 5 1 (Go.RX.E.var 6) [{ ck := Go.RX.CK.int (Go.IntKind.u8), w := 1, a := Go.RX.E.avar 0 }]]) ({ b := 0, v := 1, i := 7, a := 1, bo := 0, p := 0, r := 0 }) Tryz.f15
def st_rl15 (P : Program) (Post : Value → List HP → Prop) (x0 : Int) (x1 : Int) (x2 : Int) (x3 : Int) (x4 : Int) (x5 : Int) (x6 : Int) (A0 : Nat → Int) (v0 : V1) : Prop :=
∀ _ : Nat, ∀ _ : Nat, ∀ _ : Nat, ∀ _ : Nat, Fork ((x2 = 0) ∧ (x3 = 0)) (
  Fork (x4 = 0) (
    Fork (x5 = 0) (
      ∀ _ : Nat, ∃ post, Meets P 43 [.int .u64 (IntKind.wrap .u64 x0)] [] post ∧
      ∀ x hs, post x hs → ∃ A1 : (Nat → Int), x = .string ⟨(strD A1).toArray⟩ ∧ hs = [] ∧
      Need (0 ≤ (A1 0)) (
      Need (((A1 0) + 1) ≤ 9223372036854775807) (
      ∃ post, Meets P 43 [.int .u64 (IntKind.wrap .u64 x1)] [] post ∧
      ∀ x hs, post x hs → ∃ A2 : (Nat → Int), x = .string ⟨(strD A2).toArray⟩ ∧ hs = [] ∧
      Need (0 ≤ ((A1 0) + 1)) (
      Need (0 ≤ (A2 0)) (
      Need ((((A1 0) + 1) + (A2 0)) ≤ 9223372036854775807) (
      Need (0 ≤ (((A1 0) + 1) + (A2 0))) (
      Need ((6 + (((A1 0) + 1) + (A2 0))) ≤ 9223372036854775807) (
      Need (0 ≤ (6 + (((A1 0) + 1) + (A2 0)))) (
      Need (((6 + (((A1 0) + 1) + (A2 0))) + 1) ≤ 9223372036854775807) (
      ∃ post, Meets P 44 [v0.v] [sliHP false 5 1 v0.v (Int.toNat x6) (tabL (Int.toNat x6) [colI .u8 1 A0])] post ∧
      ∀ x hs, post x hs → ∃ A3 : (Nat → Int), x = .string ⟨(strD A3).toArray⟩ ∧ hs = [sliHP false 5 1 v0.v (Int.toNat x6) (tabL (Int.toNat x6) [colI .u8 1 A0])] ∧
      Need (0 ≤ ((6 + (((A1 0) + 1) + (A2 0))) + 1)) (
      Need (0 ≤ (A3 0)) (
      Need ((((6 + (((A1 0) + 1) + (A2 0))) + 1) + (A3 0)) ≤ 9223372036854775807) (
      Post (.string ⟨(strD (catF (catF (catF (rowLF [6, 102, 114, 97, 109, 101, 32]) (catF (catF A1 (rowLF [1, 47])) A2)) (rowLF [1, 32])) A3)).toArray⟩) []))))))))))))) (
      Post (.string ⟨#[]⟩) [])) (
    Post (.string ⟨#[]⟩) [])) (
  Post (.string ⟨#[]⟩) [])
theorem vc_rl15 (P : Program) (Post : Value → List HP → Prop) (x0 : Int) (x1 : Int) (x2 : Int) (x3 : Int) (x4 : Int) (x5 : Int) (x6 : Int) (A0 : Nat → Int) (v0 : V1) (L : Nat → LC) : VC P (fun v _ => Post v []) fm_rl15 { iv := [x0, x1, x2, x3, x4, x5, x6], av := [A0], bo := [], bv := [], vv := [v0] } L = st_rl15 P Post x0 x1 x2 x3 x4 x5 x6 A0 v0 := by kernel_rfl
theorem run_rl15 : runF cxR1 15 ([Go.RX.SV.agg [Go.RX.SV.int (Go.IntKind.u8) (Go.RX.E.lit 15), Go.RX.SV.int (Go.IntKind.u8) (Go.RX.E.var 0), Go.RX.SV.int (Go.IntKind.u8) (Go.RX.E.var 1), Go.RX.SV.int (Go.IntKind.u8) (Go.RX.E.var 2), Go.RX.SV.int (Go.IntKind.u8) (Go.RX.E.var 3), Go.RX.SV.int (Go.IntKind.i64) (Go.RX.E.var 4), Go.RX.SV.int (Go.IntKind.u64) (Go.RX.E.var 5), Go.RX.SV.vv 0]]) ([Go.RX.Ck.sli false 0 5 1 (Go.RX.E.var 6) [{ ck := Go.RX.CK.int (Go.IntKind.u8), w := 1, a := Go.RX.E.avar 0 }]]) ({ b := 0, v := 1, i := 7, a := 1, bo := 0, p := 0, r := 0 }) Tryz.f15 = fm_rl15 := rfl
end Go.RX.Sp
