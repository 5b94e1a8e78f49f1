/- Printing of moves: what the functions leave to be shown (H R Z); printed by a program of ours (wip/tools). -/
import Derived.Test.YtgaabcinjbjbgaaGreatDoorAuCtx
import Derived.Test.YtgaabcinjbjbgaaGreatDoorAuA
import Derived.Test.YtgaabcinjbjbgaaGreatDoorRyK
namespace Go.RX.Sp
open Go.RX Go.Proofs
noncomputable def cxH : Ctx := { T := TT, FT := FT, loops := loopsH, calls := callsH, pure := Sc.pure }
noncomputable def cxR : Ctx := { T := TT, FT := FT, loops := loopsR, callees := calleesR, pure := Sc.pure }
noncomputable def cx0 : Ctx := { T := TT, FT := FT, calls := calls0, pure := Sc.pure }
set_option maxRecDepth 100000
noncomputable def fm_hex : F := runF cxH 37 ([Go.RX.SV.vv 0]) ([Go.RX.Ck.sli false 0 5 1 (Go.RX.E.var 0) [{ ck := Go.RX.CK.int (Go.IntKind.u8), w := 1, a := Go.RX.E.avar 0 }]]) ({ b := 0, v := 1, i := 1, a := 1, bo := 0, p := 0, r := 0 }) Tryz.f37
def st_hex (P : Program) (Post : Value → List HP → Prop) (x0 : Int) (A0 : Nat → Int) (v0 : V1) : Prop :=
 Need (0 ≤ x0) (
 Fork (x0 = 0) (
  Post (.string ⟨#[45]⟩) [sliHP false 5 1 v0.v (Int.toNat x0) (tabL (Int.toNat x0) [colI .u8 1 A0])]) (
  ∀ b0 : Nat, ∃ (I0x2 : Ext → Prop) (m0x2 : Ext → Nat), (∃ x1 : Int, ∃ x2 : Int, ∃ A1 : (Nat → Int), x1 = 0 ∧ x2 = 0 ∧ (∀ j, j < (Int.toNat x2) → A1 j = (fun _ => 0) j) ∧ I0x2 ⟨[], [], [x1, x2], [A1], [], [], []⟩) ∧
  ∀ x1 : Int, ∀ x2 : Int, ∀ A1 : (Nat → Int), I0x2 ⟨[], [], [x1, x2], [A1], [], [], []⟩ →
    Fork (x1 < x0) (
      Need (0 ≤ x1) (
      Need (0 ≤ (iop .shr .u8 (A0 (Int.toNat x1)) 4)) (
      Need ((iop .shr .u8 (A0 (Int.toNat x1)) 4) < 16) (
      Need (0 ≤ x2) (
      Need ((x2 + 1) ≤ 140737488355328) (
      Need (0 ≤ (iop .band .u8 (A0 (Int.toNat x1)) 15)) (
      Need ((iop .band .u8 (A0 (Int.toNat x1)) 15) < 16) (
      Need (0 ≤ (x2 + 1)) (
      Need (((x2 + 1) + 1) ≤ 140737488355328) (
      Need ((-9223372036854775808) ≤ (x1 + 1)) (
      Need ((x1 + 1) ≤ 9223372036854775807) (
      ∃ x1' : Int, ∃ x2' : Int, ∃ A1' : (Nat → Int), x1' = (x1 + 1) ∧ x2' = ((x2 + 1) + 1) ∧ (∀ j, j < (Int.toNat x2') → A1' j = (updF (updF A1 (Int.toNat x2) ((rowLF [48, 49, 50, 51, 52, 53, 54, 55, 56, 57, 97, 98, 99, 100, 101, 102]) (Int.toNat (iop .shr .u8 (A0 (Int.toNat x1)) 4)))) (Int.toNat (x2 + 1)) ((rowLF [48, 49, 50, 51, 52, 53, 54, 55, 56, 57, 97, 98, 99, 100, 101, 102]) (Int.toNat (iop .band .u8 (A0 (Int.toNat x1)) 15)))) j) ∧ I0x2 ⟨[], [], [x1', x2'], [A1'], [], [], []⟩ ∧ m0x2 ⟨[], [], [x1', x2'], [A1'], [], [], []⟩ < m0x2 ⟨[], [], [x1, x2], [A1], [], [], []⟩)))))))))))) (
      ∃ post, Meets P 47 [.pointer (some ⟨b0, 0, none⟩)] [bldHP b0 93 5 (segCells .u8 (Int.toNat x2) A1)] post ∧
      ∀ x hs, post x hs → ∃ A2 : (Nat → Int), x = .string ⟨(strD A2).toArray⟩ ∧ hs = [] ∧
      Post (.string ⟨(strD A2).toArray⟩) [sliHP false 5 1 v0.v (Int.toNat x0) (tabL (Int.toNat x0) [colI .u8 1 A0]), HP.emp])))
theorem vc_hex (P : Program) (Post : Value → List HP → Prop) (x0 : Int) (A0 : Nat → Int) (v0 : V1) (L : Nat → LC) : VC P Post fm_hex { iv := [x0], av := [A0], bo := [], bv := [], vv := [v0] } L = st_hex P Post x0 A0 v0 := by kernel_rfl
theorem run_hex : runF cxH 37 ([Go.RX.SV.vv 0]) ([Go.RX.Ck.sli false 0 5 1 (Go.RX.E.var 0) [{ ck := Go.RX.CK.int (Go.IntKind.u8), w := 1, a := Go.RX.E.avar 0 }]]) ({ b := 0, v := 1, i := 1, a := 1, bo := 0, p := 0, r := 0 }) Tryz.f37 = fm_hex := rfl
noncomputable def fm_digits : F := runF cxR 43 ([Go.RX.SV.int (Go.IntKind.u64) (Go.RX.E.var 0)]) ([]) ({ b := 0, v := 0, i := 1, a := 0, bo := 0, p := 0, r := 0 }) Tryz.f43
def st_digits (P : Program) (Post : Value → List HP → Prop) (x0 : Int) : Prop :=
∀ _ : Nat, Fork (x0 < 10) (
  Post (.string ⟨(strD (bytF (fun _ => (IntKind.wrap .u8 (IntKind.wrap .u64 (48 + (iop .rem .u64 x0 10))))) 1)).toArray⟩) []) (
  ∃ post, Meets P 43 [.int .u64 (IntKind.wrap .u64 (iop .quo .u64 x0 10))] [] post ∧
  ∀ x hs, post x hs → ∃ A0 : (Nat → Int), x = .string ⟨(strD A0).toArray⟩ ∧ hs = [] ∧
  Need (0 ≤ (A0 0)) (
  Need (((A0 0) + 1) ≤ 9223372036854775807) (
  Post (.string ⟨(strD (catF A0 (bytF (fun _ => (IntKind.wrap .u8 (IntKind.wrap .u64 (48 + (iop .rem .u64 x0 10))))) 1))).toArray⟩) [])))
theorem vc_digits (P : Program) (Post : Value → List HP → Prop) (x0 : Int) (L : Nat → LC) : VC P (fun v _ => Post v []) fm_digits { iv := [x0], av := [], bo := [], bv := [], vv := [] } L = st_digits P Post x0 := by kernel_rfl
theorem run_digits : runF cxR 43 ([Go.RX.SV.int (Go.IntKind.u64) (Go.RX.E.var 0)]) ([]) ({ b := 0, v := 0, i := 1, a := 0, bo := 0, p := 0, r := 0 }) Tryz.f43 = fm_digits := rfl
noncomputable def fm_whole : F := runF cxR 42 ([Go.RX.SV.int (Go.IntKind.i64) (Go.RX.E.var 0)]) ([]) ({ b := 0, v := 0, i := 1, a := 0, bo := 0, p := 0, r := 0 }) Tryz.f42
def st_whole (P : Program) (Post : Value → List HP → Prop) (x0 : Int) : Prop :=
 Fork (x0 < 0) (
  ∃ post, Meets P 43 [.int .u64 (IntKind.wrap .u64 (0 - (IntKind.wrap .u64 x0)))] [] post ∧
  ∀ x hs, post x hs → ∃ A0 : (Nat → Int), x = .string ⟨(strD A0).toArray⟩ ∧ hs = [] ∧
  Need (0 ≤ (A0 0)) (
  Need ((1 + (A0 0)) ≤ 9223372036854775807) (
  Post (.string ⟨(strD (catF (rowLF [1, 45]) A0)).toArray⟩) []))) (
  ∃ post, Meets P 43 [.int .u64 (IntKind.wrap .u64 x0)] [] post ∧
  ∀ x hs, post x hs → ∃ A0 : (Nat → Int), x = .string ⟨(strD A0).toArray⟩ ∧ hs = [] ∧
  Post (.string ⟨(strD A0).toArray⟩) [])
theorem vc_whole (P : Program) (Post : Value → List HP → Prop) (x0 : Int) (L : Nat → LC) : VC P (fun v _ => Post v []) fm_whole { iv := [x0], av := [], bo := [], bv := [], vv := [] } L = st_whole P Post x0 := by kernel_rfl
theorem run_whole : runF cxR 42 ([Go.RX.SV.int (Go.IntKind.i64) (Go.RX.E.var 0)]) ([]) ({ b := 0, v := 0, i := 1, a := 0, bo := 0, p := 0, r := 0 }) Tryz.f42 = fm_whole := rfl
noncomputable def fm_rhex : F := runF cxR 44 ([Go.RX.SV.vv 0]) ([Go.RX.Ck.sli false 0 5 1 (Go.RX.E.var 0) [{ ck := Go.RX.CK.int (Go.IntKind.u8), w := 1, a := Go.RX.E.avar 0 }]]) ({ b := 0, v := 1, i := 1, a := 1, bo := 0, p := 0, r := 0 }) Tryz.f44
def st_rhex (_ : Program) (Post : Value → List HP → Prop) (x0 : Int) (A0 : Nat → Int) (_ : V1) : Prop :=
 Need (0 ≤ x0) (
 Fork (x0 = 0) (
  Post (.string ⟨#[45]⟩) []) (
  ∃ (I0x2 : Ext → Prop) (m0x2 : Ext → Nat), (∃ v2 : V1, ∃ x1 : Int, ∃ x2 : Int, ∃ A1 : (Nat → Int), x1 = 0 ∧ v2 = (⟨.slice none 0 0, rfl⟩ : V1) ∧ v2 = (⟨.slice none 0 0, rfl⟩ : V1) ∧ x2 = 0 ∧ (∀ j, j < (Int.toNat x2) → A1 j = (fun _ => 0) j) ∧ I0x2 ⟨[], [v2], [x1, x2], [A1], [], [], []⟩) ∧
  ∀ v2 : V1, ∀ x1 : Int, ∀ x2 : Int, ∀ A1 : (Nat → Int), I0x2 ⟨[], [v2], [x1, x2], [A1], [], [], []⟩ →
    Need (0 ≤ x0) (
    Fork (x1 < x0) (
      Need (0 ≤ x1) (
      Need (0 ≤ (IntKind.wrap .u8 (iop .quo .u8 (A0 (Int.toNat x1)) 16))) (
      Need ((IntKind.wrap .u8 (iop .quo .u8 (A0 (Int.toNat x1)) 16)) < 16) (
      Need (0 ≤ (iop .rem .u8 (A0 (Int.toNat x1)) 16)) (
      Need ((iop .rem .u8 (A0 (Int.toNat x1)) 16) < 16) (
      ∀ _ : Nat, Need (0 ≤ x2) (
      Need ((x2 + 2) ≤ 140737488355328) (
      ∀ v3 : V1, Need ((-9223372036854775808) ≤ (x1 + 1)) (
      Need ((x1 + 1) ≤ 9223372036854775807) (
      ∃ v2' : V1, ∃ x1' : Int, ∃ x2' : Int, ∃ A1' : (Nat → Int), x1' = (x1 + 1) ∧ v2' = v3 ∧ v2' = v3 ∧ x2' = (x2 + 2) ∧ (∀ j, j < (Int.toNat x2') → A1' j = (splF A1 (Int.toNat x2) 2 (updF (updF (fun _ => 0) 0 ((rowLF [48, 49, 50, 51, 52, 53, 54, 55, 56, 57, 97, 98, 99, 100, 101, 102]) (Int.toNat (IntKind.wrap .u8 (iop .quo .u8 (A0 (Int.toNat x1)) 16))))) 1 ((rowLF [48, 49, 50, 51, 52, 53, 54, 55, 56, 57, 97, 98, 99, 100, 101, 102]) (Int.toNat (iop .rem .u8 (A0 (Int.toNat x1)) 16))))) j) ∧ I0x2 ⟨[], [v2'], [x1', x2'], [A1'], [], [], []⟩ ∧ m0x2 ⟨[], [v2'], [x1', x2'], [A1'], [], [], []⟩ < m0x2 ⟨[], [v2], [x1, x2], [A1], [], [], []⟩)))))))))) (
      Post (.string ⟨(strD (bytF A1 x2)).toArray⟩) []))))
theorem vc_rhex (P : Program) (Post : Value → List HP → Prop) (x0 : Int) (A0 : Nat → Int) (v0 : V1) (L : Nat → LC) : VC P (fun v _ => Post v []) fm_rhex { iv := [x0], av := [A0], bo := [], bv := [], vv := [v0] } L = st_rhex P Post x0 A0 v0 := by kernel_rfl
theorem run_rhex : runF cxR 44 ([Go.RX.SV.vv 0]) ([Go.RX.Ck.sli false 0 5 1 (Go.RX.E.var 0) [{ ck := Go.RX.CK.int (Go.IntKind.u8), w := 1, a := Go.RX.E.avar 0 }]]) ({ b := 0, v := 1, i := 1, a := 1, bo := 0, p := 0, r := 0 }) Tryz.f44 = fm_rhex := rfl
noncomputable def fm_pl0 : F := runF cx0 14 ([Go.RX.SV.agg [Go.RX.SV.int (Go.IntKind.u8) (Go.RX.E.var 7), Go.RX.SV.int (Go.IntKind.u8) (Go.RX.E.var 0), Go.RX.SV.int (Go.IntKind.u8) (Go.RX.E.var 1), Go.RX.SV.int (Go.IntKind.u8) (Go.RX.E.var 2), Go.RX.SV.int (Go.IntKind.u8) (Go.RX.E.var 3), Go.RX.SV.int (Go.IntKind.i64) (Go.RX.E.var 4), Go.RX.SV.int (Go.IntKind.u64) (Go.RX.E.var 5), Go.RX.SV.vv 0]]) ([Go.RX.Ck.abs 0, Go.RX.Ck.sli false 0 5 1 (Go.RX.E.var 6) [{ ck := Go.RX.CK.int (Go.IntKind.u8), w := 1, a := Go.RX.E.avar 0 }]]) ({ b := 0, v := 1, i := 8, a := 1, bo := 0, p := 1, r := 0 }) Tryz.f14
def st_pl0 (P : Program) (Post : Value → List HP → Prop) (_ : Int) (_ : Int) (_ : Int) (_ : Int) (_ : Int) (_ : Int) (_ : Int) (x7 : Int) (_ : Nat → Int) (_ : V1) (_ : HP) : Prop :=
∀ _ : Nat, ∃ post, Meets P 33 [.int .u8 x7] [] post ∧
∀ x hs, post x hs → x = .tuple #[.string ⟨#[]⟩, .string ⟨#[]⟩, .bool false] ∧ hs = [] ∧
 Post (.tuple #[.string ⟨#[]⟩, .bool false]) []
theorem vc_pl0 (P : Program) (Post : Value → List HP → Prop) (x0 : Int) (x1 : Int) (x2 : Int) (x3 : Int) (x4 : Int) (x5 : Int) (x6 : Int) (x7 : Int) (A0 : Nat → Int) (v0 : V1) (p0 : HP) (L : Nat → LC) : VC P (fun v _ => Post v []) fm_pl0 { iv := [x0, x1, x2, x3, x4, x5, x6, x7], av := [A0], bo := [], bv := [], vv := [v0], pv := [p0] } L = st_pl0 P Post x0 x1 x2 x3 x4 x5 x6 x7 A0 v0 p0 := by kernel_rfl
theorem run_pl0 : runF cx0 14 ([Go.RX.SV.agg [Go.RX.SV.int (Go.IntKind.u8) (Go.RX.E.var 7), Go.RX.SV.int (Go.IntKind.u8) (Go.RX.E.var 0), Go.RX.SV.int (Go.IntKind.u8) (Go.RX.E.var 1), Go.RX.SV.int (Go.IntKind.u8) (Go.RX.E.var 2), Go.RX.SV.int (Go.IntKind.u8) (Go.RX.E.var 3), Go.RX.SV.int (Go.IntKind.i64) (Go.RX.E.var 4), Go.RX.SV.int (Go.IntKind.u64) (Go.RX.E.var 5), Go.RX.SV.vv 0]]) ([Go.RX.Ck.abs 0, Go.RX.Ck.sli false 0 5 1 (Go.RX.E.var 6) [{ ck := Go.RX.CK.int (Go.IntKind.u8), w := 1, a := Go.RX.E.avar 0 }]]) ({ b := 0, v := 1, i := 8, a := 1, bo := 0, p := 1, r := 0 }) Tryz.f14 = fm_pl0 := rfl
noncomputable def fm_pform : F := runF cx0 33 ([Go.RX.SV.int (Go.IntKind.u8) (Go.RX.E.var 0)]) ([]) ({ b := 0, v := 0, i := 1, a := 0, bo := 0, p := 0, r := 0 }) Tryz.f33
def st_pform (_ : Program) (Post : Value → List HP → Prop) (x0 : Int) : Prop :=
∀ _ : V1, Need ((x0 < 1) ∨ ((-9223372036854775808) ≤ x0)) (
 Need ((x0 < 1) ∨ (x0 ≤ 9223372036854775807)) (
 Fork ((x0 < 1) ∨ (15 < x0)) (
  Post (.tuple #[.string ⟨#[]⟩, .string ⟨#[]⟩, .bool false]) []) (
  Need (0 ≤ (IntKind.wrap .u8 (x0 - 1))) (
  Need ((IntKind.wrap .u8 (x0 - 1)) < 15) (
  Fork (strD (rowLF [1, 32]) = strD (at2F (strTabF [[7, 100, 105, 97, 108, 32, 100, 110], [8, 97, 110, 115, 119, 101, 114, 32, 100], [9, 100, 101, 99, 108, 105, 110, 101, 32, 100], [6, 104, 97, 110, 103, 32, 100], [6, 116, 105, 99, 107, 32, 110], [9, 100, 101, 108, 105, 118, 101, 114, 32, 110], [6, 100, 114, 111, 112, 32, 110], [8, 100, 111, 117, 98, 108, 101, 32, 110], [9, 116, 97, 109, 112, 101, 114, 32, 110, 99], [9, 105, 110, 106, 101, 99, 116, 32, 100, 98], [8, 99, 114, 101, 97, 116, 101, 32, 100], [6, 97, 100, 100, 32, 100, 112], [7, 107, 105, 99, 107, 32, 100, 112], [7, 108, 101, 97, 118, 101, 32, 100], [8, 102, 114, 97, 109, 101, 32, 100, 98]]) (Int.toNat (IntKind.wrap .u8 (x0 - 1))))) (
    Need (0 ≤ ((at2F (strTabF [[7, 100, 105, 97, 108, 32, 100, 110], [8, 97, 110, 115, 119, 101, 114, 32, 100], [9, 100, 101, 99, 108, 105, 110, 101, 32, 100], [6, 104, 97, 110, 103, 32, 100], [6, 116, 105, 99, 107, 32, 110], [9, 100, 101, 108, 105, 118, 101, 114, 32, 110], [6, 100, 114, 111, 112, 32, 110], [8, 100, 111, 117, 98, 108, 101, 32, 110], [9, 116, 97, 109, 112, 101, 114, 32, 110, 99], [9, 105, 110, 106, 101, 99, 116, 32, 100, 98], [8, 99, 114, 101, 97, 116, 101, 32, 100], [6, 97, 100, 100, 32, 100, 112], [7, 107, 105, 99, 107, 32, 100, 112], [7, 108, 101, 97, 118, 101, 32, 100], [8, 102, 114, 97, 109, 101, 32, 100, 98]]) (Int.toNat (IntKind.wrap .u8 (x0 - 1)))) 0)) (
    Need (1 ≤ ((at2F (strTabF [[7, 100, 105, 97, 108, 32, 100, 110], [8, 97, 110, 115, 119, 101, 114, 32, 100], [9, 100, 101, 99, 108, 105, 110, 101, 32, 100], [6, 104, 97, 110, 103, 32, 100], [6, 116, 105, 99, 107, 32, 110], [9, 100, 101, 108, 105, 118, 101, 114, 32, 110], [6, 100, 114, 111, 112, 32, 110], [8, 100, 111, 117, 98, 108, 101, 32, 110], [9, 116, 97, 109, 112, 101, 114, 32, 110, 99], [9, 105, 110, 106, 101, 99, 116, 32, 100, 98], [8, 99, 114, 101, 97, 116, 101, 32, 100], [6, 97, 100, 100, 32, 100, 112], [7, 107, 105, 99, 107, 32, 100, 112], [7, 108, 101, 97, 118, 101, 32, 100], [8, 102, 114, 97, 109, 101, 32, 100, 98]]) (Int.toNat (IntKind.wrap .u8 (x0 - 1)))) 0)) (
    Post (.tuple #[.string ⟨(strD (updF (at2F (strTabF [[7, 100, 105, 97, 108, 32, 100, 110], [8, 97, 110, 115, 119, 101, 114, 32, 100], [9, 100, 101, 99, 108, 105, 110, 101, 32, 100], [6, 104, 97, 110, 103, 32, 100], [6, 116, 105, 99, 107, 32, 110], [9, 100, 101, 108, 105, 118, 101, 114, 32, 110], [6, 100, 114, 111, 112, 32, 110], [8, 100, 111, 117, 98, 108, 101, 32, 110], [9, 116, 97, 109, 112, 101, 114, 32, 110, 99], [9, 105, 110, 106, 101, 99, 116, 32, 100, 98], [8, 99, 114, 101, 97, 116, 101, 32, 100], [6, 97, 100, 100, 32, 100, 112], [7, 107, 105, 99, 107, 32, 100, 112], [7, 108, 101, 97, 118, 101, 32, 100], [8, 102, 114, 97, 109, 101, 32, 100, 98]]) (Int.toNat (IntKind.wrap .u8 (x0 - 1)))) 0 0)).toArray⟩, .string ⟨(strD (updF (shiftF (at2F (strTabF [[7, 100, 105, 97, 108, 32, 100, 110], [8, 97, 110, 115, 119, 101, 114, 32, 100], [9, 100, 101, 99, 108, 105, 110, 101, 32, 100], [6, 104, 97, 110, 103, 32, 100], [6, 116, 105, 99, 107, 32, 110], [9, 100, 101, 108, 105, 118, 101, 114, 32, 110], [6, 100, 114, 111, 112, 32, 110], [8, 100, 111, 117, 98, 108, 101, 32, 110], [9, 116, 97, 109, 112, 101, 114, 32, 110, 99], [9, 105, 110, 106, 101, 99, 116, 32, 100, 98], [8, 99, 114, 101, 97, 116, 101, 32, 100], [6, 97, 100, 100, 32, 100, 112], [7, 107, 105, 99, 107, 32, 100, 112], [7, 108, 101, 97, 118, 101, 32, 100], [8, 102, 114, 97, 109, 101, 32, 100, 98]]) (Int.toNat (IntKind.wrap .u8 (x0 - 1)))) 1) 0 (((at2F (strTabF [[7, 100, 105, 97, 108, 32, 100, 110], [8, 97, 110, 115, 119, 101, 114, 32, 100], [9, 100, 101, 99, 108, 105, 110, 101, 32, 100], [6, 104, 97, 110, 103, 32, 100], [6, 116, 105, 99, 107, 32, 110], [9, 100, 101, 108, 105, 118, 101, 114, 32, 110], [6, 100, 114, 111, 112, 32, 110], [8, 100, 111, 117, 98, 108, 101, 32, 110], [9, 116, 97, 109, 112, 101, 114, 32, 110, 99], [9, 105, 110, 106, 101, 99, 116, 32, 100, 98], [8, 99, 114, 101, 97, 116, 101, 32, 100], [6, 97, 100, 100, 32, 100, 112], [7, 107, 105, 99, 107, 32, 100, 112], [7, 108, 101, 97, 118, 101, 32, 100], [8, 102, 114, 97, 109, 101, 32, 100, 98]]) (Int.toNat (IntKind.wrap .u8 (x0 - 1)))) 0) - 1))).toArray⟩, .bool true]) []))) (
    False))))))
theorem vc_pform (P : Program) (Post : Value → List HP → Prop) (x0 : Int) (L : Nat → LC) : VC P (fun v _ => Post v []) fm_pform { iv := [x0], av := [], bo := [], bv := [], vv := [] } L = st_pform P Post x0 := by kernel_rfl
theorem run_pform : runF cx0 33 ([Go.RX.SV.int (Go.IntKind.u8) (Go.RX.E.var 0)]) ([]) ({ b := 0, v := 0, i := 1, a := 0, bo := 0, p := 0, r := 0 }) Tryz.f33 = fm_pform := rfl
noncomputable def fm_rform : F := runF cx0 39 ([Go.RX.SV.int (Go.IntKind.u8) (Go.RX.E.var 0)]) ([]) ({ b := 0, v := 0, i := 1, a := 0, bo := 0, p := 0, r := 0 }) Tryz.f39
def st_rform (_ : Program) (Post : Value → List HP → Prop) (x0 : Int) : Prop :=
∀ _ : Nat, ∀ _ : Nat, Need ((x0 < 1) ∨ ((-9223372036854775808) ≤ x0)) (
 Need ((x0 < 1) ∨ (x0 ≤ 9223372036854775807)) (
 Fork ((x0 < 1) ∨ (16 ≤ x0)) (
  Post (.tuple #[.string ⟨#[]⟩, .string ⟨#[]⟩, .bool false]) []) (
  Need (0 ≤ x0) (
  Need (x0 < 16) (
  Post (.tuple #[.string ⟨(strD (at2F (strTabF [[0], [4, 100, 105, 97, 108], [6, 97, 110, 115, 119, 101, 114], [7, 100, 101, 99, 108, 105, 110, 101], [4, 104, 97, 110, 103], [4, 116, 105, 99, 107], [7, 100, 101, 108, 105, 118, 101, 114], [4, 100, 114, 111, 112], [6, 100, 111, 117, 98, 108, 101], [6, 116, 97, 109, 112, 101, 114], [6, 105, 110, 106, 101, 99, 116], [6, 99, 114, 101, 97, 116, 101], [3, 97, 100, 100], [4, 107, 105, 99, 107], [5, 108, 101, 97, 118, 101], [5, 102, 114, 97, 109, 101]]) (Int.toNat x0))).toArray⟩, .string ⟨(strD (at2F (strTabF [[0], [2, 100, 110], [1, 100], [1, 100], [1, 100], [1, 110], [1, 110], [1, 110], [1, 110], [2, 110, 99], [2, 100, 98], [1, 100], [2, 100, 112], [2, 100, 112], [1, 100], [2, 100, 98]]) (Int.toNat x0))).toArray⟩, .bool true]) [])))))
theorem vc_rform (P : Program) (Post : Value → List HP → Prop) (x0 : Int) (L : Nat → LC) : VC P (fun v _ => Post v []) fm_rform { iv := [x0], av := [], bo := [], bv := [], vv := [] } L = st_rform P Post x0 := by kernel_rfl
theorem run_rform : runF cx0 39 ([Go.RX.SV.int (Go.IntKind.u8) (Go.RX.E.var 0)]) ([]) ({ b := 0, v := 0, i := 1, a := 0, bo := 0, p := 0, r := 0 }) Tryz.f39 = fm_rform := rfl
noncomputable def fm_rl0 : F := runF cx0 15 ([Go.RX.SV.agg [Go.RX.SV.int (Go.IntKind.u8) (Go.RX.E.var 7), Go.RX.SV.int (Go.IntKind.u8) (Go.RX.E.var 0), Go.RX.SV.int (Go.IntKind.u8) (Go.RX.E.var 1), Go.RX.SV.int (Go.IntKind.u8) (Go.RX.E.var 2), Go.RX.SV.int (Go.IntKind.u8) (Go.RX.E.var 3), Go.RX.SV.int (Go.IntKind.i64) (Go.RX.E.var 4), Go.RX.SV.int (Go.IntKind.u64) (Go.RX.E.var 5), Go.RX.SV.vv 0]]) ([Go.RX.Ck.sli false 0 5 1 (Go.RX.E.var 6) [{ ck := Go.RX.CK.int (Go.IntKind.u8), w := 1, a := Go.RX.E.avar 0 }]]) ({ b := 0, v := 1, i := 8, a := 1, bo := 0, p := 0, r := 0 }) Tryz.f15
def st_rl0 (P : Program) (Post : Value → List HP → Prop) (_ : Int) (_ : Int) (_ : Int) (_ : Int) (_ : Int) (_ : Int) (_ : Int) (x7 : Int) (_ : Nat → Int) (_ : V1) : Prop :=
∀ _ : Nat, ∃ post, Meets P 39 [.int .u8 x7] [] post ∧
∀ x hs, post x hs → x = .tuple #[.string ⟨#[]⟩, .string ⟨#[]⟩, .bool false] ∧ hs = [] ∧
∀ _ : Nat, Post (.string ⟨#[]⟩) []
theorem vc_rl0 (P : Program) (Post : Value → List HP → Prop) (x0 : Int) (x1 : Int) (x2 : Int) (x3 : Int) (x4 : Int) (x5 : Int) (x6 : Int) (x7 : Int) (A0 : Nat → Int) (v0 : V1) (L : Nat → LC) : VC P (fun v _ => Post v []) fm_rl0 { iv := [x0, x1, x2, x3, x4, x5, x6, x7], av := [A0], bo := [], bv := [], vv := [v0] } L = st_rl0 P Post x0 x1 x2 x3 x4 x5 x6 x7 A0 v0 := by kernel_rfl
theorem run_rl0 : runF cx0 15 ([Go.RX.SV.agg [Go.RX.SV.int (Go.IntKind.u8) (Go.RX.E.var 7), Go.RX.SV.int (Go.IntKind.u8) (Go.RX.E.var 0), Go.RX.SV.int (Go.IntKind.u8) (Go.RX.E.var 1), Go.RX.SV.int (Go.IntKind.u8) (Go.RX.E.var 2), Go.RX.SV.int (Go.IntKind.u8) (Go.RX.E.var 3), Go.RX.SV.int (Go.IntKind.i64) (Go.RX.E.var 4), Go.RX.SV.int (Go.IntKind.u64) (Go.RX.E.var 5), Go.RX.SV.vv 0]]) ([Go.RX.Ck.sli false 0 5 1 (Go.RX.E.var 6) [{ ck := Go.RX.CK.int (Go.IntKind.u8), w := 1, a := Go.RX.E.avar 0 }]]) ({ b := 0, v := 1, i := 8, a := 1, bo := 0, p := 0, r := 0 }) Tryz.f15 = fm_rl0 := rfl
end Go.RX.Sp
