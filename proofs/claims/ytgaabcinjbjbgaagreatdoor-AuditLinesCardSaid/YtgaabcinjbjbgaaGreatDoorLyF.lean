/- AuditLines: what the law leaves to be shown; printed by a program of ours (wip/tools). -/
import Derived.Test.YtgaabcinjbjbgaaGreatDoorAuCtx
import Derived.Test.YtgaabcinjbjbgaaGreatDoorAuA
import Derived.Test.YtgaabcinjbjbgaaGreatDoorRyK

namespace Go.RX.Lu
open Go.RX Go.Proofs
/-- The types, and the library's Error. -/
noncomputable def TE : List TI := ⟨231, .int .i64, 1, 8, [.int .i64 (.lit 0)], []⟩ :: TT
theorem okTE : checkT Tryz.prog TE = true := by kernel_rfl
noncomputable def cx : Ctx := { T := TE, FT := FT, loops := loops }
set_option maxRecDepth 100000
noncomputable def fm_parse31 : F := runF cx 110 ([Go.RX.SV.strE (Go.RX.E.avar 0), Go.RX.SV.int (Go.IntKind.i64) (Go.RX.E.lit 10), Go.RX.SV.int (Go.IntKind.i64) (Go.RX.E.lit 31)]) ([]) ({ b := 0, v := 0, i := 0, a := 1, bo := 0, p := 0, r := 0 }) Tryz.f110
def st_parse31 (_ : Program) (Post : Value → List HP → Prop) (A0 : Nat → Int) : Prop :=
 Fork (strD A0 = strD (rowLF [0])) (
  Post (.tuple #[.int .u64 0, (.iface 231 (.int .i64 2))]) []) (
  Need (0 ≤ (A0 0)) (
  ∀ _ : V1, ∃ (I0x2 : Ext → Prop) (m0x2 : Ext → Nat), (∃ x0 : Int, ∃ x1 : Int, x0 = 0 ∧ x1 = 0 ∧ I0x2 ⟨[], [], [x0, x1], [], [], [], []⟩) ∧
  ∀ x0 : Int, ∀ x1 : Int, I0x2 ⟨[], [], [x0, x1], [], [], [], []⟩ →
    Fork (x0 < (A0 0)) (
      Need (0 ≤ x0) (
      Fork ((((sbyF A0) (Int.toNat x0)) = 95) ∧ (false = true)) (
        Need ((-9223372036854775808) ≤ (x0 + 1)) (
        Need ((x0 + 1) ≤ 9223372036854775807) (
        ∃ x0' : Int, ∃ x1' : Int, x0' = (x0 + 1) ∧ x1' = x1 ∧ false = true ∧ I0x2 ⟨[], [], [x0', x1'], [], [], [], []⟩ ∧ m0x2 ⟨[], [], [x0', x1'], [], [], [], []⟩ < m0x2 ⟨[], [], [x0, x1], [], [], [], []⟩))) (
        Fork ((48 ≤ ((sbyF A0) (Int.toNat x0))) ∧ (((sbyF A0) (Int.toNat x0)) ≤ 57)) (
          Fork (10 ≤ (IntKind.wrap .u8 (((sbyF A0) (Int.toNat x0)) - 48))) (
            Post (.tuple #[.int .u64 0, (.iface 231 (.int .i64 2))]) []) (
            Fork (1844674407370955162 ≤ x1) (
              Post (.tuple #[.int .u64 2147483647, (.iface 231 (.int .i64 1))]) []) (
              Fork (((IntKind.wrap .u64 ((IntKind.wrap .u64 (x1 * 10)) + (IntKind.wrap .u64 (IntKind.wrap .u8 (((sbyF A0) (Int.toNat x0)) - 48))))) < (IntKind.wrap .u64 (x1 * 10))) ∨ (2147483647 < (IntKind.wrap .u64 ((IntKind.wrap .u64 (x1 * 10)) + (IntKind.wrap .u64 (IntKind.wrap .u8 (((sbyF A0) (Int.toNat x0)) - 48))))))) (
                Post (.tuple #[.int .u64 2147483647, (.iface 231 (.int .i64 1))]) []) (
                Need ((-9223372036854775808) ≤ (x0 + 1)) (
                Need ((x0 + 1) ≤ 9223372036854775807) (
                ∃ x0' : Int, ∃ x1' : Int, x0' = (x0 + 1) ∧ x1' = (IntKind.wrap .u64 ((IntKind.wrap .u64 (x1 * 10)) + (IntKind.wrap .u64 (IntKind.wrap .u8 (((sbyF A0) (Int.toNat x0)) - 48))))) ∧ I0x2 ⟨[], [], [x0', x1'], [], [], [], []⟩ ∧ m0x2 ⟨[], [], [x0', x1'], [], [], [], []⟩ < m0x2 ⟨[], [], [x0, x1], [], [], [], []⟩)))))) (
          Fork (97 ≤ (iop .bor .u8 ((sbyF A0) (Int.toNat x0)) 32)) (
            Fork ((iop .bor .u8 ((sbyF A0) (Int.toNat x0)) 32) ≤ 122) (
              Fork (10 ≤ (IntKind.wrap .u8 ((IntKind.wrap .u8 ((iop .bor .u8 ((sbyF A0) (Int.toNat x0)) 32) - 97)) + 10))) (
                Post (.tuple #[.int .u64 0, (.iface 231 (.int .i64 2))]) []) (
                Fork (1844674407370955162 ≤ x1) (
                  Post (.tuple #[.int .u64 2147483647, (.iface 231 (.int .i64 1))]) []) (
                  Fork (((IntKind.wrap .u64 ((IntKind.wrap .u64 (x1 * 10)) + (IntKind.wrap .u64 (IntKind.wrap .u8 ((IntKind.wrap .u8 ((iop .bor .u8 ((sbyF A0) (Int.toNat x0)) 32) - 97)) + 10))))) < (IntKind.wrap .u64 (x1 * 10))) ∨ (2147483647 < (IntKind.wrap .u64 ((IntKind.wrap .u64 (x1 * 10)) + (IntKind.wrap .u64 (IntKind.wrap .u8 ((IntKind.wrap .u8 ((iop .bor .u8 ((sbyF A0) (Int.toNat x0)) 32) - 97)) + 10))))))) (
                    Post (.tuple #[.int .u64 2147483647, (.iface 231 (.int .i64 1))]) []) (
                    Need ((-9223372036854775808) ≤ (x0 + 1)) (
                    Need ((x0 + 1) ≤ 9223372036854775807) (
                    ∃ x0' : Int, ∃ x1' : Int, x0' = (x0 + 1) ∧ x1' = (IntKind.wrap .u64 ((IntKind.wrap .u64 (x1 * 10)) + (IntKind.wrap .u64 (IntKind.wrap .u8 ((IntKind.wrap .u8 ((iop .bor .u8 ((sbyF A0) (Int.toNat x0)) 32) - 97)) + 10))))) ∧ I0x2 ⟨[], [], [x0', x1'], [], [], [], []⟩ ∧ m0x2 ⟨[], [], [x0', x1'], [], [], [], []⟩ < m0x2 ⟨[], [], [x0, x1], [], [], [], []⟩)))))) (
              Post (.tuple #[.int .u64 0, (.iface 231 (.int .i64 2))]) [])) (
            Post (.tuple #[.int .u64 0, (.iface 231 (.int .i64 2))]) []))))) (
      Post (.tuple #[.int .u64 x1, .nilIface]) [])))
theorem vc_parse31 (P : Program) (Post : Value → List HP → Prop) (A0 : Nat → Int) (L : Nat → LC) : VC P (fun v _ => Post v []) fm_parse31 { iv := [], av := [A0], bo := [], bv := [], vv := [] } L = st_parse31 P Post A0 := by kernel_rfl
theorem run_parse31 : runF cx 110 ([Go.RX.SV.strE (Go.RX.E.avar 0), Go.RX.SV.int (Go.IntKind.i64) (Go.RX.E.lit 10), Go.RX.SV.int (Go.IntKind.i64) (Go.RX.E.lit 31)]) ([]) ({ b := 0, v := 0, i := 0, a := 1, bo := 0, p := 0, r := 0 }) Tryz.f110 = fm_parse31 := rfl
end Go.RX.Lu

namespace Go.RX.Lf
open Go.RX Go.Proofs
noncomputable def cxF : Ctx := { T := TT, FT := FT, calls := callsF }
noncomputable def cxOk : Ctx := { T := TT, FT := FT, calls := callsOk }
noncomputable def cxErr : Ctx := { T := TT, FT := FT, calls := callsErr }
noncomputable def cxN : Ctx := { T := TT, FT := FT, calls := callsN }
set_option maxRecDepth 100000
noncomputable def fm_fmt : F := runF cxF 71 ([Go.RX.SV.int (Go.IntKind.u64) (Go.RX.E.var 0), Go.RX.SV.int (Go.IntKind.i64) (Go.RX.E.lit 10)]) ([Go.RX.Ck.abs 0]) ({ b := 0, v := 0, i := 1, a := 0, bo := 0, p := 1, r := 0 }) Tryz.f71
def st_fmt (P : Program) (Post : Value → List HP → Prop) (x0 : Int) (p0 : HP) : Prop :=
 Fork (x0 < 100) (
  Need ((-9223372036854775808) ≤ x0) (
  Need (x0 ≤ 9223372036854775807) (
  ∃ post, Meets P 119 [.int .i64 x0] [] post ∧
  ∀ x hs, post x hs → ∃ A0 : (Nat → Int), x = .string ⟨(strD A0).toArray⟩ ∧ hs = [] ∧
  Post (.string ⟨(strD A0).toArray⟩) []))) (
  ∀ b0 : Nat, ∃ post, Meets P 120 [.int .u64 x0] [p0] post ∧
  ∀ x hs, post x hs → ∃ x1 : Int, x = .int .i64 x1 ∧ hs = [p0] ∧
  Need (0 ≤ x1) (
  Need (x1 ≤ 24) (
  ∃ post, Meets P 121 [.slice (some ⟨b0, 0, none⟩) (Int.toNat x1) 24, .int .u64 x0] [rowHP b0 true (List.append (segCells .u8 24 (fun _ => 0)) ([]))] post ∧
  ∀ x hs, post x hs → ∃ A0 : (Nat → Int), x = .tuple #[] ∧ hs = [rowHP b0 true (List.append (segCells .u8 24 A0) ([]))] ∧
  Post (.string ⟨(strD (bytF A0 x1)).toArray⟩) [])))
theorem vc_fmt (P : Program) (Post : Value → List HP → Prop) (x0 : Int) (p0 : HP) (L : Nat → LC) : VC P (fun v _ => Post v []) fm_fmt { iv := [x0], av := [], bo := [], bv := [], vv := [], pv := [p0] } L = st_fmt P Post x0 p0 := by kernel_rfl
theorem run_fmt : runF cxF 71 ([Go.RX.SV.int (Go.IntKind.u64) (Go.RX.E.var 0), Go.RX.SV.int (Go.IntKind.i64) (Go.RX.E.lit 10)]) ([Go.RX.Ck.abs 0]) ({ b := 0, v := 0, i := 1, a := 0, bo := 0, p := 1, r := 0 }) Tryz.f71 = fm_fmt := rfl
noncomputable def fm_pok : F := runF cxOk 88 ([Go.RX.SV.strE (Go.RX.E.avar 0), Go.RX.SV.int (Go.IntKind.i64) (Go.RX.E.lit 10), Go.RX.SV.int (Go.IntKind.i64) (Go.RX.E.var 0)]) ([Go.RX.Ck.abs 0]) ({ b := 0, v := 0, i := 1, a := 1, bo := 0, p := 1, r := 0 }) Tryz.f88
def st_pok (P : Program) (Post : Value → List HP → Prop) (x0 : Int) (A0 : Nat → Int) (_ : HP) : Prop :=
∃ post, Meets P 110 [.string ⟨(strD A0).toArray⟩, .int .i64 10, .int .i64 x0] [] post ∧
∀ x hs, post x hs → ∃ x1 : Int, x = .tuple #[.int .u64 x1, .nilIface] ∧ hs = [] ∧
 Post (.tuple #[.int .u64 x1, .nilIface]) []
theorem vc_pok (P : Program) (Post : Value → List HP → Prop) (x0 : Int) (A0 : Nat → Int) (p0 : HP) (L : Nat → LC) : VC P (fun v _ => Post v []) fm_pok { iv := [x0], av := [A0], bo := [], bv := [], vv := [], pv := [p0] } L = st_pok P Post x0 A0 p0 := by kernel_rfl
theorem run_pok : runF cxOk 88 ([Go.RX.SV.strE (Go.RX.E.avar 0), Go.RX.SV.int (Go.IntKind.i64) (Go.RX.E.lit 10), Go.RX.SV.int (Go.IntKind.i64) (Go.RX.E.var 0)]) ([Go.RX.Ck.abs 0]) ({ b := 0, v := 0, i := 1, a := 1, bo := 0, p := 1, r := 0 }) Tryz.f88 = fm_pok := rfl
noncomputable def fm_perr : F := runF cxErr 88 ([Go.RX.SV.strE (Go.RX.E.avar 0), Go.RX.SV.int (Go.IntKind.i64) (Go.RX.E.lit 10), Go.RX.SV.int (Go.IntKind.i64) (Go.RX.E.var 0)]) ([Go.RX.Ck.abs 0]) ({ b := 0, v := 0, i := 1, a := 1, bo := 0, p := 1, r := 0 }) Tryz.f88
def st_perr (P : Program) (Post : Value → List HP → Prop) (x0 : Int) (A0 : Nat → Int) (p0 : HP) : Prop :=
∃ post, Meets P 110 [.string ⟨(strD A0).toArray⟩, .int .i64 10, .int .i64 x0] [] post ∧
∀ x hs, post x hs → ∃ x1 : Int, ∃ x2 : Int, x = .tuple #[.int .u64 x1, (.iface 231 (.int .i64 x2))] ∧ hs = [] ∧
∃ post, Meets P 111 [.string ⟨#[80, 97, 114, 115, 101, 85, 105, 110, 116]⟩, .string ⟨(strD A0).toArray⟩, .int .i64 10, .int .i64 x0, (.iface 231 (.int .i64 x2))] [p0] post ∧
∀ x hs, post x hs → ∃ v0 : V1, x = (if true then ifaceOf v0.v else .nilIface) ∧ hs = [p0] ∧
 Post (.tuple #[.int .u64 x1, (if true then ifaceOf v0.v else .nilIface)]) []
theorem vc_perr (P : Program) (Post : Value → List HP → Prop) (x0 : Int) (A0 : Nat → Int) (p0 : HP) (L : Nat → LC) : VC P (fun v _ => Post v []) fm_perr { iv := [x0], av := [A0], bo := [], bv := [], vv := [], pv := [p0] } L = st_perr P Post x0 A0 p0 := by kernel_rfl
theorem run_perr : runF cxErr 88 ([Go.RX.SV.strE (Go.RX.E.avar 0), Go.RX.SV.int (Go.IntKind.i64) (Go.RX.E.lit 10), Go.RX.SV.int (Go.IntKind.i64) (Go.RX.E.var 0)]) ([Go.RX.Ck.abs 0]) ({ b := 0, v := 0, i := 1, a := 1, bo := 0, p := 1, r := 0 }) Tryz.f88 = fm_perr := rfl
noncomputable def fm_num : F := runF cxN 57 ([Go.RX.SV.strE (Go.RX.E.avar 0), Go.RX.SV.int (Go.IntKind.i64) (Go.RX.E.var 0)]) ([Go.RX.Ck.abs 0]) ({ b := 0, v := 0, i := 1, a := 1, bo := 0, p := 1, r := 0 }) Tryz.f57
def st_num (P : Program) (Post : Value → List HP → Prop) (x0 : Int) (A0 : Nat → Int) (p0 : HP) : Prop :=
∃ post, Meets P 88 [.string ⟨(strD A0).toArray⟩, .int .i64 10, .int .i64 x0] [p0] post ∧
∀ x hs, post x hs → ∃ v0 : V1, ∃ x1 : Int, ∃ q0 : Bool, x = .tuple #[.int .u64 x1, (if q0 then ifaceOf v0.v else .nilIface)] ∧ hs = [p0] ∧
 Need ((-9223372036854775808) ≤ x1) (
 Need (x1 ≤ 9223372036854775807) (
 Fork (¬ (q0 = true)) (
  ∃ post, Meets P 71 [.int .u64 x1, .int .i64 10] [p0] post ∧
  ∀ x hs, post x hs → ∃ A1 : (Nat → Int), x = .string ⟨(strD A1).toArray⟩ ∧ hs = [p0] ∧
  Post (.tuple #[.int .i64 x1, .bool (strD A1 == strD A0)]) []) (
  Post (.tuple #[.int .i64 x1, .bool false]) [])))
theorem vc_num (P : Program) (Post : Value → List HP → Prop) (x0 : Int) (A0 : Nat → Int) (p0 : HP) (L : Nat → LC) : VC P (fun v _ => Post v []) fm_num { iv := [x0], av := [A0], bo := [], bv := [], vv := [], pv := [p0] } L = st_num P Post x0 A0 p0 := by kernel_rfl
theorem run_num : runF cxN 57 ([Go.RX.SV.strE (Go.RX.E.avar 0), Go.RX.SV.int (Go.IntKind.i64) (Go.RX.E.var 0)]) ([Go.RX.Ck.abs 0]) ({ b := 0, v := 0, i := 1, a := 1, bo := 0, p := 1, r := 0 }) Tryz.f57 = fm_num := rfl
end Go.RX.Lf

namespace Go.RX.Lp
open Go.RX Go.Proofs
noncomputable def cx : Ctx := { T := TT, FT := FT, calls := callsL, pure := Au.pure }
set_option maxRecDepth 100000
noncomputable def fm_pline : F := runF cx 22 ([Go.RX.SV.agg [Go.RX.SV.int (Go.IntKind.u8) (Go.RX.E.var 0), Go.RX.SV.int (Go.IntKind.i64) (Go.RX.E.var 1), Go.RX.SV.int (Go.IntKind.u8) (Go.RX.E.var 2), Go.RX.SV.int (Go.IntKind.u8) (Go.RX.E.var 3), Go.RX.SV.seg (Go.IntKind.u8) 16 (Go.RX.E.avar 0)]]) ([Go.RX.Ck.abs 0]) ({ b := 0, v := 0, i := 4, a := 1, bo := 0, p := 1, r := 0 }) Tryz.f22
def st_pline (P : Program) (Post : Value → List HP → Prop) (x0 : Int) (x1 : Int) (x2 : Int) (x3 : Int) (A0 : Nat → Int) (p0 : HP) : Prop :=
∀ _ : Nat, ∀ _ : V1, Need ((x0 < 1) ∨ ((-9223372036854775808) ≤ x0)) (
 Need ((x0 < 1) ∨ (x0 ≤ 9223372036854775807)) (
 Fork (((x0 < 1) ∨ (7 < x0)) ∨ (x1 < 0)) (
  Post (.tuple #[.string ⟨#[]⟩, .bool false]) []) (
  ∀ _ : Nat, Need (0 ≤ (iop .shr .u8 (A0 0) 4)) (
  Need ((iop .shr .u8 (A0 0) 4) < 16) (
  Need (0 ≤ (iop .band .u8 (A0 0) 15)) (
  Need ((iop .band .u8 (A0 0) 15) < 16) (
  Need (0 ≤ (iop .shr .u8 (A0 1) 4)) (
  Need ((iop .shr .u8 (A0 1) 4) < 16) (
  Need (0 ≤ (iop .band .u8 (A0 1) 15)) (
  Need ((iop .band .u8 (A0 1) 15) < 16) (
  Need (0 ≤ (iop .shr .u8 (A0 2) 4)) (
  Need ((iop .shr .u8 (A0 2) 4) < 16) (
  Need (0 ≤ (iop .band .u8 (A0 2) 15)) (
  Need ((iop .band .u8 (A0 2) 15) < 16) (
  Need (0 ≤ (iop .shr .u8 (A0 3) 4)) (
  Need ((iop .shr .u8 (A0 3) 4) < 16) (
  Need (0 ≤ (iop .band .u8 (A0 3) 15)) (
  Need ((iop .band .u8 (A0 3) 15) < 16) (
  Need (0 ≤ (iop .shr .u8 (A0 4) 4)) (
  Need ((iop .shr .u8 (A0 4) 4) < 16) (
  Need (0 ≤ (iop .band .u8 (A0 4) 15)) (
  Need ((iop .band .u8 (A0 4) 15) < 16) (
  Need (0 ≤ (iop .shr .u8 (A0 5) 4)) (
  Need ((iop .shr .u8 (A0 5) 4) < 16) (
  Need (0 ≤ (iop .band .u8 (A0 5) 15)) (
  Need ((iop .band .u8 (A0 5) 15) < 16) (
  Need (0 ≤ (iop .shr .u8 (A0 6) 4)) (
  Need ((iop .shr .u8 (A0 6) 4) < 16) (
  Need (0 ≤ (iop .band .u8 (A0 6) 15)) (
  Need ((iop .band .u8 (A0 6) 15) < 16) (
  Need (0 ≤ (iop .shr .u8 (A0 7) 4)) (
  Need ((iop .shr .u8 (A0 7) 4) < 16) (
  Need (0 ≤ (iop .band .u8 (A0 7) 15)) (
  Need ((iop .band .u8 (A0 7) 15) < 16) (
  Need (0 ≤ (iop .shr .u8 (A0 8) 4)) (
  Need ((iop .shr .u8 (A0 8) 4) < 16) (
  Need (0 ≤ (iop .band .u8 (A0 8) 15)) (
  Need ((iop .band .u8 (A0 8) 15) < 16) (
  Need (0 ≤ (iop .shr .u8 (A0 9) 4)) (
  Need ((iop .shr .u8 (A0 9) 4) < 16) (
  Need (0 ≤ (iop .band .u8 (A0 9) 15)) (
  Need ((iop .band .u8 (A0 9) 15) < 16) (
  Need (0 ≤ (iop .shr .u8 (A0 10) 4)) (
  Need ((iop .shr .u8 (A0 10) 4) < 16) (
  Need (0 ≤ (iop .band .u8 (A0 10) 15)) (
  Need ((iop .band .u8 (A0 10) 15) < 16) (
  Need (0 ≤ (iop .shr .u8 (A0 11) 4)) (
  Need ((iop .shr .u8 (A0 11) 4) < 16) (
  Need (0 ≤ (iop .band .u8 (A0 11) 15)) (
  Need ((iop .band .u8 (A0 11) 15) < 16) (
  Need (0 ≤ (iop .shr .u8 (A0 12) 4)) (
  Need ((iop .shr .u8 (A0 12) 4) < 16) (
  Need (0 ≤ (iop .band .u8 (A0 12) 15)) (
  Need ((iop .band .u8 (A0 12) 15) < 16) (
  Need (0 ≤ (iop .shr .u8 (A0 13) 4)) (
  Need ((iop .shr .u8 (A0 13) 4) < 16) (
  Need (0 ≤ (iop .band .u8 (A0 13) 15)) (
  Need ((iop .band .u8 (A0 13) 15) < 16) (
  Need (0 ≤ (iop .shr .u8 (A0 14) 4)) (
  Need ((iop .shr .u8 (A0 14) 4) < 16) (
  Need (0 ≤ (iop .band .u8 (A0 14) 15)) (
  Need ((iop .band .u8 (A0 14) 15) < 16) (
  Need (0 ≤ (iop .shr .u8 (A0 15) 4)) (
  Need ((iop .shr .u8 (A0 15) 4) < 16) (
  Need (0 ≤ (iop .band .u8 (A0 15) 15)) (
  Need ((iop .band .u8 (A0 15) 15) < 16) (
  Need (0 ≤ (IntKind.wrap .u8 (x0 - 1))) (
  Need ((IntKind.wrap .u8 (x0 - 1)) < 7) (
  Need ((-9223372036854775808) ≤ x2) (
  Need (x2 ≤ 9223372036854775807) (
  Need ((-9223372036854775808) ≤ x3) (
  Need (x3 ≤ 9223372036854775807) (
  ∃ post, Meets P 35 [.int .i64 x1] [p0] post ∧
  ∀ x hs, post x hs → ∃ A1 : (Nat → Int), x = .string ⟨(strD A1).toArray⟩ ∧ hs = [p0] ∧
  ∃ post, Meets P 35 [.int .i64 x2] [p0] post ∧
  ∀ x hs, post x hs → ∃ A2 : (Nat → Int), x = .string ⟨(strD A2).toArray⟩ ∧ hs = [p0] ∧
  Need (0 ≤ (A2 0)) (
  Need (((A2 0) + 1) ≤ 9223372036854775807) (
  ∃ post, Meets P 35 [.int .i64 x3] [p0] post ∧
  ∀ x hs, post x hs → ∃ A3 : (Nat → Int), x = .string ⟨(strD A3).toArray⟩ ∧ hs = [p0] ∧
  Need (0 ≤ ((A2 0) + 1)) (
  Need (0 ≤ (A3 0)) (
  Need ((((A2 0) + 1) + (A3 0)) ≤ 9223372036854775807) (
  Need (0 ≤ ((rowLF [48, 49, 50, 51, 52, 53, 54, 55, 56, 57, 97, 98, 99, 100, 101, 102]) (Int.toNat (iop .shr .u8 (A0 0) 4)))) (
  Need (((rowLF [48, 49, 50, 51, 52, 53, 54, 55, 56, 57, 97, 98, 99, 100, 101, 102]) (Int.toNat (iop .shr .u8 (A0 0) 4))) ≤ 255) (
  Need (0 ≤ ((rowLF [48, 49, 50, 51, 52, 53, 54, 55, 56, 57, 97, 98, 99, 100, 101, 102]) (Int.toNat (iop .band .u8 (A0 0) 15)))) (
  Need (((rowLF [48, 49, 50, 51, 52, 53, 54, 55, 56, 57, 97, 98, 99, 100, 101, 102]) (Int.toNat (iop .band .u8 (A0 0) 15))) ≤ 255) (
  Need (0 ≤ ((rowLF [48, 49, 50, 51, 52, 53, 54, 55, 56, 57, 97, 98, 99, 100, 101, 102]) (Int.toNat (iop .shr .u8 (A0 1) 4)))) (
  Need (((rowLF [48, 49, 50, 51, 52, 53, 54, 55, 56, 57, 97, 98, 99, 100, 101, 102]) (Int.toNat (iop .shr .u8 (A0 1) 4))) ≤ 255) (
  Need (0 ≤ ((rowLF [48, 49, 50, 51, 52, 53, 54, 55, 56, 57, 97, 98, 99, 100, 101, 102]) (Int.toNat (iop .band .u8 (A0 1) 15)))) (
  Need (((rowLF [48, 49, 50, 51, 52, 53, 54, 55, 56, 57, 97, 98, 99, 100, 101, 102]) (Int.toNat (iop .band .u8 (A0 1) 15))) ≤ 255) (
  Need (0 ≤ ((rowLF [48, 49, 50, 51, 52, 53, 54, 55, 56, 57, 97, 98, 99, 100, 101, 102]) (Int.toNat (iop .shr .u8 (A0 2) 4)))) (
  Need (((rowLF [48, 49, 50, 51, 52, 53, 54, 55, 56, 57, 97, 98, 99, 100, 101, 102]) (Int.toNat (iop .shr .u8 (A0 2) 4))) ≤ 255) (
  Need (0 ≤ ((rowLF [48, 49, 50, 51, 52, 53, 54, 55, 56, 57, 97, 98, 99, 100, 101, 102]) (Int.toNat (iop .band .u8 (A0 2) 15)))) (
  Need (((rowLF [48, 49, 50, 51, 52, 53, 54, 55, 56, 57, 97, 98, 99, 100, 101, 102]) (Int.toNat (iop .band .u8 (A0 2) 15))) ≤ 255) (
  Need (0 ≤ ((rowLF [48, 49, 50, 51, 52, 53, 54, 55, 56, 57, 97, 98, 99, 100, 101, 102]) (Int.toNat (iop .shr .u8 (A0 3) 4)))) (
  Need (((rowLF [48, 49, 50, 51, 52, 53, 54, 55, 56, 57, 97, 98, 99, 100, 101, 102]) (Int.toNat (iop .shr .u8 (A0 3) 4))) ≤ 255) (
  Need (0 ≤ ((rowLF [48, 49, 50, 51, 52, 53, 54, 55, 56, 57, 97, 98, 99, 100, 101, 102]) (Int.toNat (iop .band .u8 (A0 3) 15)))) (
  Need (((rowLF [48, 49, 50, 51, 52, 53, 54, 55, 56, 57, 97, 98, 99, 100, 101, 102]) (Int.toNat (iop .band .u8 (A0 3) 15))) ≤ 255) (
  Need (0 ≤ ((rowLF [48, 49, 50, 51, 52, 53, 54, 55, 56, 57, 97, 98, 99, 100, 101, 102]) (Int.toNat (iop .shr .u8 (A0 4) 4)))) (
  Need (((rowLF [48, 49, 50, 51, 52, 53, 54, 55, 56, 57, 97, 98, 99, 100, 101, 102]) (Int.toNat (iop .shr .u8 (A0 4) 4))) ≤ 255) (
  Need (0 ≤ ((rowLF [48, 49, 50, 51, 52, 53, 54, 55, 56, 57, 97, 98, 99, 100, 101, 102]) (Int.toNat (iop .band .u8 (A0 4) 15)))) (
  Need (((rowLF [48, 49, 50, 51, 52, 53, 54, 55, 56, 57, 97, 98, 99, 100, 101, 102]) (Int.toNat (iop .band .u8 (A0 4) 15))) ≤ 255) (
  Need (0 ≤ ((rowLF [48, 49, 50, 51, 52, 53, 54, 55, 56, 57, 97, 98, 99, 100, 101, 102]) (Int.toNat (iop .shr .u8 (A0 5) 4)))) (
  Need (((rowLF [48, 49, 50, 51, 52, 53, 54, 55, 56, 57, 97, 98, 99, 100, 101, 102]) (Int.toNat (iop .shr .u8 (A0 5) 4))) ≤ 255) (
  Need (0 ≤ ((rowLF [48, 49, 50, 51, 52, 53, 54, 55, 56, 57, 97, 98, 99, 100, 101, 102]) (Int.toNat (iop .band .u8 (A0 5) 15)))) (
  Need (((rowLF [48, 49, 50, 51, 52, 53, 54, 55, 56, 57, 97, 98, 99, 100, 101, 102]) (Int.toNat (iop .band .u8 (A0 5) 15))) ≤ 255) (
  Need (0 ≤ ((rowLF [48, 49, 50, 51, 52, 53, 54, 55, 56, 57, 97, 98, 99, 100, 101, 102]) (Int.toNat (iop .shr .u8 (A0 6) 4)))) (
  Need (((rowLF [48, 49, 50, 51, 52, 53, 54, 55, 56, 57, 97, 98, 99, 100, 101, 102]) (Int.toNat (iop .shr .u8 (A0 6) 4))) ≤ 255) (
  Need (0 ≤ ((rowLF [48, 49, 50, 51, 52, 53, 54, 55, 56, 57, 97, 98, 99, 100, 101, 102]) (Int.toNat (iop .band .u8 (A0 6) 15)))) (
  Need (((rowLF [48, 49, 50, 51, 52, 53, 54, 55, 56, 57, 97, 98, 99, 100, 101, 102]) (Int.toNat (iop .band .u8 (A0 6) 15))) ≤ 255) (
  Need (0 ≤ ((rowLF [48, 49, 50, 51, 52, 53, 54, 55, 56, 57, 97, 98, 99, 100, 101, 102]) (Int.toNat (iop .shr .u8 (A0 7) 4)))) (
  Need (((rowLF [48, 49, 50, 51, 52, 53, 54, 55, 56, 57, 97, 98, 99, 100, 101, 102]) (Int.toNat (iop .shr .u8 (A0 7) 4))) ≤ 255) (
  Need (0 ≤ ((rowLF [48, 49, 50, 51, 52, 53, 54, 55, 56, 57, 97, 98, 99, 100, 101, 102]) (Int.toNat (iop .band .u8 (A0 7) 15)))) (
  Need (((rowLF [48, 49, 50, 51, 52, 53, 54, 55, 56, 57, 97, 98, 99, 100, 101, 102]) (Int.toNat (iop .band .u8 (A0 7) 15))) ≤ 255) (
  Need (0 ≤ ((rowLF [48, 49, 50, 51, 52, 53, 54, 55, 56, 57, 97, 98, 99, 100, 101, 102]) (Int.toNat (iop .shr .u8 (A0 8) 4)))) (
  Need (((rowLF [48, 49, 50, 51, 52, 53, 54, 55, 56, 57, 97, 98, 99, 100, 101, 102]) (Int.toNat (iop .shr .u8 (A0 8) 4))) ≤ 255) (
  Need (0 ≤ ((rowLF [48, 49, 50, 51, 52, 53, 54, 55, 56, 57, 97, 98, 99, 100, 101, 102]) (Int.toNat (iop .band .u8 (A0 8) 15)))) (
  Need (((rowLF [48, 49, 50, 51, 52, 53, 54, 55, 56, 57, 97, 98, 99, 100, 101, 102]) (Int.toNat (iop .band .u8 (A0 8) 15))) ≤ 255) (
  Need (0 ≤ ((rowLF [48, 49, 50, 51, 52, 53, 54, 55, 56, 57, 97, 98, 99, 100, 101, 102]) (Int.toNat (iop .shr .u8 (A0 9) 4)))) (
  Need (((rowLF [48, 49, 50, 51, 52, 53, 54, 55, 56, 57, 97, 98, 99, 100, 101, 102]) (Int.toNat (iop .shr .u8 (A0 9) 4))) ≤ 255) (
  Need (0 ≤ ((rowLF [48, 49, 50, 51, 52, 53, 54, 55, 56, 57, 97, 98, 99, 100, 101, 102]) (Int.toNat (iop .band .u8 (A0 9) 15)))) (
  Need (((rowLF [48, 49, 50, 51, 52, 53, 54, 55, 56, 57, 97, 98, 99, 100, 101, 102]) (Int.toNat (iop .band .u8 (A0 9) 15))) ≤ 255) (
  Need (0 ≤ ((rowLF [48, 49, 50, 51, 52, 53, 54, 55, 56, 57, 97, 98, 99, 100, 101, 102]) (Int.toNat (iop .shr .u8 (A0 10) 4)))) (
  Need (((rowLF [48, 49, 50, 51, 52, 53, 54, 55, 56, 57, 97, 98, 99, 100, 101, 102]) (Int.toNat (iop .shr .u8 (A0 10) 4))) ≤ 255) (
  Need (0 ≤ ((rowLF [48, 49, 50, 51, 52, 53, 54, 55, 56, 57, 97, 98, 99, 100, 101, 102]) (Int.toNat (iop .band .u8 (A0 10) 15)))) (
  Need (((rowLF [48, 49, 50, 51, 52, 53, 54, 55, 56, 57, 97, 98, 99, 100, 101, 102]) (Int.toNat (iop .band .u8 (A0 10) 15))) ≤ 255) (
  Need (0 ≤ ((rowLF [48, 49, 50, 51, 52, 53, 54, 55, 56, 57, 97, 98, 99, 100, 101, 102]) (Int.toNat (iop .shr .u8 (A0 11) 4)))) (
  Need (((rowLF [48, 49, 50, 51, 52, 53, 54, 55, 56, 57, 97, 98, 99, 100, 101, 102]) (Int.toNat (iop .shr .u8 (A0 11) 4))) ≤ 255) (
  Need (0 ≤ ((rowLF [48, 49, 50, 51, 52, 53, 54, 55, 56, 57, 97, 98, 99, 100, 101, 102]) (Int.toNat (iop .band .u8 (A0 11) 15)))) (
  Need (((rowLF [48, 49, 50, 51, 52, 53, 54, 55, 56, 57, 97, 98, 99, 100, 101, 102]) (Int.toNat (iop .band .u8 (A0 11) 15))) ≤ 255) (
  Need (0 ≤ ((rowLF [48, 49, 50, 51, 52, 53, 54, 55, 56, 57, 97, 98, 99, 100, 101, 102]) (Int.toNat (iop .shr .u8 (A0 12) 4)))) (
  Need (((rowLF [48, 49, 50, 51, 52, 53, 54, 55, 56, 57, 97, 98, 99, 100, 101, 102]) (Int.toNat (iop .shr .u8 (A0 12) 4))) ≤ 255) (
  Need (0 ≤ ((rowLF [48, 49, 50, 51, 52, 53, 54, 55, 56, 57, 97, 98, 99, 100, 101, 102]) (Int.toNat (iop .band .u8 (A0 12) 15)))) (
  Need (((rowLF [48, 49, 50, 51, 52, 53, 54, 55, 56, 57, 97, 98, 99, 100, 101, 102]) (Int.toNat (iop .band .u8 (A0 12) 15))) ≤ 255) (
  Need (0 ≤ ((rowLF [48, 49, 50, 51, 52, 53, 54, 55, 56, 57, 97, 98, 99, 100, 101, 102]) (Int.toNat (iop .shr .u8 (A0 13) 4)))) (
  Need (((rowLF [48, 49, 50, 51, 52, 53, 54, 55, 56, 57, 97, 98, 99, 100, 101, 102]) (Int.toNat (iop .shr .u8 (A0 13) 4))) ≤ 255) (
  Need (0 ≤ ((rowLF [48, 49, 50, 51, 52, 53, 54, 55, 56, 57, 97, 98, 99, 100, 101, 102]) (Int.toNat (iop .band .u8 (A0 13) 15)))) (
  Need (((rowLF [48, 49, 50, 51, 52, 53, 54, 55, 56, 57, 97, 98, 99, 100, 101, 102]) (Int.toNat (iop .band .u8 (A0 13) 15))) ≤ 255) (
  Need (0 ≤ ((rowLF [48, 49, 50, 51, 52, 53, 54, 55, 56, 57, 97, 98, 99, 100, 101, 102]) (Int.toNat (iop .shr .u8 (A0 14) 4)))) (
  Need (((rowLF [48, 49, 50, 51, 52, 53, 54, 55, 56, 57, 97, 98, 99, 100, 101, 102]) (Int.toNat (iop .shr .u8 (A0 14) 4))) ≤ 255) (
  Need (0 ≤ ((rowLF [48, 49, 50, 51, 52, 53, 54, 55, 56, 57, 97, 98, 99, 100, 101, 102]) (Int.toNat (iop .band .u8 (A0 14) 15)))) (
  Need (((rowLF [48, 49, 50, 51, 52, 53, 54, 55, 56, 57, 97, 98, 99, 100, 101, 102]) (Int.toNat (iop .band .u8 (A0 14) 15))) ≤ 255) (
  Need (0 ≤ ((rowLF [48, 49, 50, 51, 52, 53, 54, 55, 56, 57, 97, 98, 99, 100, 101, 102]) (Int.toNat (iop .shr .u8 (A0 15) 4)))) (
  Need (((rowLF [48, 49, 50, 51, 52, 53, 54, 55, 56, 57, 97, 98, 99, 100, 101, 102]) (Int.toNat (iop .shr .u8 (A0 15) 4))) ≤ 255) (
  Need (0 ≤ ((rowLF [48, 49, 50, 51, 52, 53, 54, 55, 56, 57, 97, 98, 99, 100, 101, 102]) (Int.toNat (iop .band .u8 (A0 15) 15)))) (
  Need (((rowLF [48, 49, 50, 51, 52, 53, 54, 55, 56, 57, 97, 98, 99, 100, 101, 102]) (Int.toNat (iop .band .u8 (A0 15) 15))) ≤ 255) (
  ∀ b2 : Nat, ∃ post, Meets P 38 [.slice (some ⟨b2, 0, none⟩) 4 4, .string ⟨#[32]⟩] [rowHP b2 true ([.string ⟨(strD (at2F (strTabF [[5, 101, 118, 101, 110, 116], [5, 98, 121, 116, 101, 115], [7, 109, 105, 115, 115, 105, 110, 103], [6, 117, 110, 108, 105, 107, 101], [4, 109, 111, 114, 101], [5, 111, 114, 100, 101, 114], [4, 111, 112, 101, 110]]) (Int.toNat (IntKind.wrap .u8 (x0 - 1))))).toArray⟩, .string ⟨(strD A1).toArray⟩, .string ⟨(strD (catF (catF A2 (rowLF [1, 47])) A3)).toArray⟩, .string ⟨(strD (bytF (updF (updF (updF (updF (updF (updF (updF (updF (updF (updF (updF (updF (updF (updF (updF (updF (updF (updF (updF (updF (updF (updF (updF (updF (updF (updF (updF (updF (updF (updF (updF (updF (fun _ => 0) 0 ((rowLF [48, 49, 50, 51, 52, 53, 54, 55, 56, 57, 97, 98, 99, 100, 101, 102]) (Int.toNat (iop .shr .u8 (A0 0) 4)))) 1 ((rowLF [48, 49, 50, 51, 52, 53, 54, 55, 56, 57, 97, 98, 99, 100, 101, 102]) (Int.toNat (iop .band .u8 (A0 0) 15)))) 2 ((rowLF [48, 49, 50, 51, 52, 53, 54, 55, 56, 57, 97, 98, 99, 100, 101, 102]) (Int.toNat (iop .shr .u8 (A0 1) 4)))) 3 ((rowLF [48, 49, 50, 51, 52, 53, 54, 55, 56, 57, 97, 98, 99, 100, 101, 102]) (Int.toNat (iop .band .u8 (A0 1) 15)))) 4 ((rowLF [48, 49, 50, 51, 52, 53, 54, 55, 56, 57, 97, 98, 99, 100, 101, 102]) (Int.toNat (iop .shr .u8 (A0 2) 4)))) 5 ((rowLF [48, 49, 50, 51, 52, 53, 54, 55, 56, 57, 97, 98, 99, 100, 101, 102]) (Int.toNat (iop .band .u8 (A0 2) 15)))) 6 ((rowLF [48, 49, 50, 51, 52, 53, 54, 55, 56, 57, 97, 98, 99, 100, 101, 102]) (Int.toNat (iop .shr .u8 (A0 3) 4)))) 7 ((rowLF [48, 49, 50, 51, 52, 53, 54, 55, 56, 57, 97, 98, 99, 100, 101, 102]) (Int.toNat (iop .band .u8 (A0 3) 15)))) 8 ((rowLF [48, 49, 50, 51, 52, 53, 54, 55, 56, 57, 97, 98, 99, 100, 101, 102]) (Int.toNat (iop .shr .u8 (A0 4) 4)))) 9 ((rowLF [48, 49, 50, 51, 52, 53, 54, 55, 56, 57, 97, 98, 99, 100, 101, 102]) (Int.toNat (iop .band .u8 (A0 4) 15)))) 10 ((rowLF [48, 49, 50, 51, 52, 53, 54, 55, 56, 57, 97, 98, 99, 100, 101, 102]) (Int.toNat (iop .shr .u8 (A0 5) 4)))) 11 ((rowLF [48, 49, 50, 51, 52, 53, 54, 55, 56, 57, 97, 98, 99, 100, 101, 102]) (Int.toNat (iop .band .u8 (A0 5) 15)))) 12 ((rowLF [48, 49, 50, 51, 52, 53, 54, 55, 56, 57, 97, 98, 99, 100, 101, 102]) (Int.toNat (iop .shr .u8 (A0 6) 4)))) 13 ((rowLF [48, 49, 50, 51, 52, 53, 54, 55, 56, 57, 97, 98, 99, 100, 101, 102]) (Int.toNat (iop .band .u8 (A0 6) 15)))) 14 ((rowLF [48, 49, 50, 51, 52, 53, 54, 55, 56, 57, 97, 98, 99, 100, 101, 102]) (Int.toNat (iop .shr .u8 (A0 7) 4)))) 15 ((rowLF [48, 49, 50, 51, 52, 53, 54, 55, 56, 57, 97, 98, 99, 100, 101, 102]) (Int.toNat (iop .band .u8 (A0 7) 15)))) 16 ((rowLF [48, 49, 50, 51, 52, 53, 54, 55, 56, 57, 97, 98, 99, 100, 101, 102]) (Int.toNat (iop .shr .u8 (A0 8) 4)))) 17 ((rowLF [48, 49, 50, 51, 52, 53, 54, 55, 56, 57, 97, 98, 99, 100, 101, 102]) (Int.toNat (iop .band .u8 (A0 8) 15)))) 18 ((rowLF [48, 49, 50, 51, 52, 53, 54, 55, 56, 57, 97, 98, 99, 100, 101, 102]) (Int.toNat (iop .shr .u8 (A0 9) 4)))) 19 ((rowLF [48, 49, 50, 51, 52, 53, 54, 55, 56, 57, 97, 98, 99, 100, 101, 102]) (Int.toNat (iop .band .u8 (A0 9) 15)))) 20 ((rowLF [48, 49, 50, 51, 52, 53, 54, 55, 56, 57, 97, 98, 99, 100, 101, 102]) (Int.toNat (iop .shr .u8 (A0 10) 4)))) 21 ((rowLF [48, 49, 50, 51, 52, 53, 54, 55, 56, 57, 97, 98, 99, 100, 101, 102]) (Int.toNat (iop .band .u8 (A0 10) 15)))) 22 ((rowLF [48, 49, 50, 51, 52, 53, 54, 55, 56, 57, 97, 98, 99, 100, 101, 102]) (Int.toNat (iop .shr .u8 (A0 11) 4)))) 23 ((rowLF [48, 49, 50, 51, 52, 53, 54, 55, 56, 57, 97, 98, 99, 100, 101, 102]) (Int.toNat (iop .band .u8 (A0 11) 15)))) 24 ((rowLF [48, 49, 50, 51, 52, 53, 54, 55, 56, 57, 97, 98, 99, 100, 101, 102]) (Int.toNat (iop .shr .u8 (A0 12) 4)))) 25 ((rowLF [48, 49, 50, 51, 52, 53, 54, 55, 56, 57, 97, 98, 99, 100, 101, 102]) (Int.toNat (iop .band .u8 (A0 12) 15)))) 26 ((rowLF [48, 49, 50, 51, 52, 53, 54, 55, 56, 57, 97, 98, 99, 100, 101, 102]) (Int.toNat (iop .shr .u8 (A0 13) 4)))) 27 ((rowLF [48, 49, 50, 51, 52, 53, 54, 55, 56, 57, 97, 98, 99, 100, 101, 102]) (Int.toNat (iop .band .u8 (A0 13) 15)))) 28 ((rowLF [48, 49, 50, 51, 52, 53, 54, 55, 56, 57, 97, 98, 99, 100, 101, 102]) (Int.toNat (iop .shr .u8 (A0 14) 4)))) 29 ((rowLF [48, 49, 50, 51, 52, 53, 54, 55, 56, 57, 97, 98, 99, 100, 101, 102]) (Int.toNat (iop .band .u8 (A0 14) 15)))) 30 ((rowLF [48, 49, 50, 51, 52, 53, 54, 55, 56, 57, 97, 98, 99, 100, 101, 102]) (Int.toNat (iop .shr .u8 (A0 15) 4)))) 31 ((rowLF [48, 49, 50, 51, 52, 53, 54, 55, 56, 57, 97, 98, 99, 100, 101, 102]) (Int.toNat (iop .band .u8 (A0 15) 15)))) 32)).toArray⟩])] post ∧
  ∀ x hs, post x hs → ∃ A4 : (Nat → Int), x = .string ⟨(strD A4).toArray⟩ ∧ hs = [rowHP b2 true ([.string ⟨(strD (at2F (strTabF [[5, 101, 118, 101, 110, 116], [5, 98, 121, 116, 101, 115], [7, 109, 105, 115, 115, 105, 110, 103], [6, 117, 110, 108, 105, 107, 101], [4, 109, 111, 114, 101], [5, 111, 114, 100, 101, 114], [4, 111, 112, 101, 110]]) (Int.toNat (IntKind.wrap .u8 (x0 - 1))))).toArray⟩, .string ⟨(strD A1).toArray⟩, .string ⟨(strD (catF (catF A2 (rowLF [1, 47])) A3)).toArray⟩, .string ⟨(strD (bytF (updF (updF (updF (updF (updF (updF (updF (updF (updF (updF (updF (updF (updF (updF (updF (updF (updF (updF (updF (updF (updF (updF (updF (updF (updF (updF (updF (updF (updF (updF (updF (updF (fun _ => 0) 0 ((rowLF [48, 49, 50, 51, 52, 53, 54, 55, 56, 57, 97, 98, 99, 100, 101, 102]) (Int.toNat (iop .shr .u8 (A0 0) 4)))) 1 ((rowLF [48, 49, 50, 51, 52, 53, 54, 55, 56, 57, 97, 98, 99, 100, 101, 102]) (Int.toNat (iop .band .u8 (A0 0) 15)))) 2 ((rowLF [48, 49, 50, 51, 52, 53, 54, 55, 56, 57, 97, 98, 99, 100, 101, 102]) (Int.toNat (iop .shr .u8 (A0 1) 4)))) 3 ((rowLF [48, 49, 50, 51, 52, 53, 54, 55, 56, 57, 97, 98, 99, 100, 101, 102]) (Int.toNat (iop .band .u8 (A0 1) 15)))) 4 ((rowLF [48, 49, 50, 51, 52, 53, 54, 55, 56, 57, 97, 98, 99, 100, 101, 102]) (Int.toNat (iop .shr .u8 (A0 2) 4)))) 5 ((rowLF [48, 49, 50, 51, 52, 53, 54, 55, 56, 57, 97, 98, 99, 100, 101, 102]) (Int.toNat (iop .band .u8 (A0 2) 15)))) 6 ((rowLF [48, 49, 50, 51, 52, 53, 54, 55, 56, 57, 97, 98, 99, 100, 101, 102]) (Int.toNat (iop .shr .u8 (A0 3) 4)))) 7 ((rowLF [48, 49, 50, 51, 52, 53, 54, 55, 56, 57, 97, 98, 99, 100, 101, 102]) (Int.toNat (iop .band .u8 (A0 3) 15)))) 8 ((rowLF [48, 49, 50, 51, 52, 53, 54, 55, 56, 57, 97, 98, 99, 100, 101, 102]) (Int.toNat (iop .shr .u8 (A0 4) 4)))) 9 ((rowLF [48, 49, 50, 51, 52, 53, 54, 55, 56, 57, 97, 98, 99, 100, 101, 102]) (Int.toNat (iop .band .u8 (A0 4) 15)))) 10 ((rowLF [48, 49, 50, 51, 52, 53, 54, 55, 56, 57, 97, 98, 99, 100, 101, 102]) (Int.toNat (iop .shr .u8 (A0 5) 4)))) 11 ((rowLF [48, 49, 50, 51, 52, 53, 54, 55, 56, 57, 97, 98, 99, 100, 101, 102]) (Int.toNat (iop .band .u8 (A0 5) 15)))) 12 ((rowLF [48, 49, 50, 51, 52, 53, 54, 55, 56, 57, 97, 98, 99, 100, 101, 102]) (Int.toNat (iop .shr .u8 (A0 6) 4)))) 13 ((rowLF [48, 49, 50, 51, 52, 53, 54, 55, 56, 57, 97, 98, 99, 100, 101, 102]) (Int.toNat (iop .band .u8 (A0 6) 15)))) 14 ((rowLF [48, 49, 50, 51, 52, 53, 54, 55, 56, 57, 97, 98, 99, 100, 101, 102]) (Int.toNat (iop .shr .u8 (A0 7) 4)))) 15 ((rowLF [48, 49, 50, 51, 52, 53, 54, 55, 56, 57, 97, 98, 99, 100, 101, 102]) (Int.toNat (iop .band .u8 (A0 7) 15)))) 16 ((rowLF [48, 49, 50, 51, 52, 53, 54, 55, 56, 57, 97, 98, 99, 100, 101, 102]) (Int.toNat (iop .shr .u8 (A0 8) 4)))) 17 ((rowLF [48, 49, 50, 51, 52, 53, 54, 55, 56, 57, 97, 98, 99, 100, 101, 102]) (Int.toNat (iop .band .u8 (A0 8) 15)))) 18 ((rowLF [48, 49, 50, 51, 52, 53, 54, 55, 56, 57, 97, 98, 99, 100, 101, 102]) (Int.toNat (iop .shr .u8 (A0 9) 4)))) 19 ((rowLF [48, 49, 50, 51, 52, 53, 54, 55, 56, 57, 97, 98, 99, 100, 101, 102]) (Int.toNat (iop .band .u8 (A0 9) 15)))) 20 ((rowLF [48, 49, 50, 51, 52, 53, 54, 55, 56, 57, 97, 98, 99, 100, 101, 102]) (Int.toNat (iop .shr .u8 (A0 10) 4)))) 21 ((rowLF [48, 49, 50, 51, 52, 53, 54, 55, 56, 57, 97, 98, 99, 100, 101, 102]) (Int.toNat (iop .band .u8 (A0 10) 15)))) 22 ((rowLF [48, 49, 50, 51, 52, 53, 54, 55, 56, 57, 97, 98, 99, 100, 101, 102]) (Int.toNat (iop .shr .u8 (A0 11) 4)))) 23 ((rowLF [48, 49, 50, 51, 52, 53, 54, 55, 56, 57, 97, 98, 99, 100, 101, 102]) (Int.toNat (iop .band .u8 (A0 11) 15)))) 24 ((rowLF [48, 49, 50, 51, 52, 53, 54, 55, 56, 57, 97, 98, 99, 100, 101, 102]) (Int.toNat (iop .shr .u8 (A0 12) 4)))) 25 ((rowLF [48, 49, 50, 51, 52, 53, 54, 55, 56, 57, 97, 98, 99, 100, 101, 102]) (Int.toNat (iop .band .u8 (A0 12) 15)))) 26 ((rowLF [48, 49, 50, 51, 52, 53, 54, 55, 56, 57, 97, 98, 99, 100, 101, 102]) (Int.toNat (iop .shr .u8 (A0 13) 4)))) 27 ((rowLF [48, 49, 50, 51, 52, 53, 54, 55, 56, 57, 97, 98, 99, 100, 101, 102]) (Int.toNat (iop .band .u8 (A0 13) 15)))) 28 ((rowLF [48, 49, 50, 51, 52, 53, 54, 55, 56, 57, 97, 98, 99, 100, 101, 102]) (Int.toNat (iop .shr .u8 (A0 14) 4)))) 29 ((rowLF [48, 49, 50, 51, 52, 53, 54, 55, 56, 57, 97, 98, 99, 100, 101, 102]) (Int.toNat (iop .band .u8 (A0 14) 15)))) 30 ((rowLF [48, 49, 50, 51, 52, 53, 54, 55, 56, 57, 97, 98, 99, 100, 101, 102]) (Int.toNat (iop .shr .u8 (A0 15) 4)))) 31 ((rowLF [48, 49, 50, 51, 52, 53, 54, 55, 56, 57, 97, 98, 99, 100, 101, 102]) (Int.toNat (iop .band .u8 (A0 15) 15)))) 32)).toArray⟩])] ∧
  Post (.tuple #[.string ⟨(strD A4).toArray⟩, .bool true]) []))))))))))))))))))))))))))))))))))))))))))))))))))))))))))))))))))))))))))))))))))))))))))))))))))))))))))))))))))))))))))))))))))))))))))))))
theorem vc_pline (P : Program) (Post : Value → List HP → Prop) (x0 : Int) (x1 : Int) (x2 : Int) (x3 : Int) (A0 : Nat → Int) (p0 : HP) (L : Nat → LC) : VC P (fun v _ => Post v []) fm_pline { iv := [x0, x1, x2, x3], av := [A0], bo := [], bv := [], vv := [], pv := [p0] } L = st_pline P Post x0 x1 x2 x3 A0 p0 := by kernel_rfl
theorem run_pline : runF cx 22 ([Go.RX.SV.agg [Go.RX.SV.int (Go.IntKind.u8) (Go.RX.E.var 0), Go.RX.SV.int (Go.IntKind.i64) (Go.RX.E.var 1), Go.RX.SV.int (Go.IntKind.u8) (Go.RX.E.var 2), Go.RX.SV.int (Go.IntKind.u8) (Go.RX.E.var 3), Go.RX.SV.seg (Go.IntKind.u8) 16 (Go.RX.E.avar 0)]]) ([Go.RX.Ck.abs 0]) ({ b := 0, v := 0, i := 4, a := 1, bo := 0, p := 1, r := 0 }) Tryz.f22 = fm_pline := rfl
end Go.RX.Lp

namespace Go.RX.Lq
open Go.RX Go.Proofs
noncomputable def cx : Ctx := { T := TT, FT := FT, loops := loops, calls := calls }
set_option maxRecDepth 100000
noncomputable def fm_pread : F := runF cx 24 ([Go.RX.SV.strE (Go.RX.E.avar 0)]) ([Go.RX.Ck.abs 0]) ({ b := 0, v := 0, i := 0, a := 1, bo := 0, p := 1, r := 0 }) Tryz.f24
def st_pread (P : Program) (Post : Value → List HP → Prop) (A0 : Nat → Int) (p0 : HP) : Prop :=
∀ _ : Nat, ∀ _ : Nat, ∃ post, Meets P 52 [.string ⟨(strD A0).toArray⟩, .string ⟨#[32]⟩] [p0] post ∧
∀ x hs, post x hs → ∃ v0 : V1, ∃ x0 : Int, ∃ A1 : (Nat → Int), x = v0.v ∧ hs = [p0, sliHP true 9 1 v0.v (Int.toNat x0) (tabL (Int.toNat x0) [colV 1 (fun j => .string ⟨(strD (at2F A1 j)).toArray⟩)])] ∧
 Need (0 ≤ x0) (
 Need ((¬ (x0 = 4)) ∨ (3 < x0)) (
 Need ((¬ (x0 = 4)) ∨ (3 < x0)) (
 Need ((¬ (x0 = 4)) ∨ (0 ≤ ((at2F A1 3) 0))) (
 Fork ((¬ (x0 = 4)) ∨ (¬ (((at2F A1 3) 0) = 32))) (
  Post (.tuple #[.agg (.int .u8 0 :: (.int .i64 0 :: (.int .u8 0 :: (.int .u8 0 :: (List.append (segCells .u8 16 (fun _ => 0)) ([])))))).toArray, .int .i64 2]) []) (
  Need (0 < x0) (
  ∃ post, Meets P 52 [.string ⟨#[101, 118, 101, 110, 116, 32, 98, 121, 116, 101, 115, 32, 109, 105, 115, 115, 105, 110, 103, 32, 117, 110, 108, 105, 107, 101, 32, 109, 111, 114, 101, 32, 111, 114, 100, 101, 114, 32, 111, 112, 101, 110]⟩, .string ⟨#[32]⟩] [p0] post ∧
  ∀ x hs, post x hs → ∃ b2 : Nat, x = .slice (some ⟨b2, 0, none⟩) 7 7 ∧ hs = [p0, rowHP b2 true ([.string ⟨#[101, 118, 101, 110, 116]⟩, .string ⟨#[98, 121, 116, 101, 115]⟩, .string ⟨#[109, 105, 115, 115, 105, 110, 103]⟩, .string ⟨#[117, 110, 108, 105, 107, 101]⟩, .string ⟨#[109, 111, 114, 101]⟩, .string ⟨#[111, 114, 100, 101, 114]⟩, .string ⟨#[111, 112, 101, 110]⟩])] ∧
  ∃ post, Meets P 55 [.slice (some ⟨b2, 0, none⟩) 7 7, .string ⟨(strD (at2F A1 0)).toArray⟩] [rowHP b2 true ([.string ⟨#[101, 118, 101, 110, 116]⟩, .string ⟨#[98, 121, 116, 101, 115]⟩, .string ⟨#[109, 105, 115, 115, 105, 110, 103]⟩, .string ⟨#[117, 110, 108, 105, 107, 101]⟩, .string ⟨#[109, 111, 114, 101]⟩, .string ⟨#[111, 114, 100, 101, 114]⟩, .string ⟨#[111, 112, 101, 110]⟩])] post ∧
  ∀ x hs, post x hs → ∃ x1 : Int, x = .int .i64 x1 ∧ hs = [rowHP b2 true ([.string ⟨#[101, 118, 101, 110, 116]⟩, .string ⟨#[98, 121, 116, 101, 115]⟩, .string ⟨#[109, 105, 115, 115, 105, 110, 103]⟩, .string ⟨#[117, 110, 108, 105, 107, 101]⟩, .string ⟨#[109, 111, 114, 101]⟩, .string ⟨#[111, 114, 100, 101, 114]⟩, .string ⟨#[111, 112, 101, 110]⟩])] ∧
  Need ((-9223372036854775808) ≤ (x1 + 1)) (
  Need ((x1 + 1) ≤ 9223372036854775807) (
  Need (2 < x0) (
  ∃ post, Meets P 56 [.string ⟨(strD (at2F A1 2)).toArray⟩, .string ⟨#[47]⟩] [p0] post ∧
  ∀ x hs, post x hs → ∃ A2 : (Nat → Int), ∃ A3 : (Nat → Int), ∃ q0 : Bool, x = .tuple #[.string ⟨(strD A2).toArray⟩, .string ⟨(strD A3).toArray⟩, .bool q0] ∧ hs = [p0] ∧
  Need (1 < x0) (
  ∃ post, Meets P 57 [.string ⟨(strD (at2F A1 1)).toArray⟩, .int .i64 31] [p0] post ∧
  ∀ x hs, post x hs → ∃ x2 : Int, ∃ q1 : Bool, x = .tuple #[.int .i64 x2, .bool q1] ∧ hs = [p0] ∧
  ∃ post, Meets P 57 [.string ⟨(strD A2).toArray⟩, .int .i64 8] [p0] post ∧
  ∀ x hs, post x hs → ∃ x3 : Int, ∃ q2 : Bool, x = .tuple #[.int .i64 x3, .bool q2] ∧ hs = [p0] ∧
  ∃ post, Meets P 57 [.string ⟨(strD A3).toArray⟩, .int .i64 8] [p0] post ∧
  ∀ x hs, post x hs → ∃ x4 : Int, ∃ q3 : Bool, x = .tuple #[.int .i64 x4, .bool q3] ∧ hs = [p0] ∧
  ∃ (I0x2 : Ext → Prop) (m0x2 : Ext → Nat), (∃ x5 : Int, ∃ A4 : (Nat → Int), ∃ q4 : Bool, x5 = 0 ∧ q4 = ((((decide (0 < (IntKind.wrap .u8 (x1 + 1)))) && q1) && q2) && q3) ∧ (∀ j, j < 16 → A4 j = (fun _ => 0) j) ∧ I0x2 ⟨[], [], [x5], [A4], [q4], [], []⟩) ∧
  ∀ x5 : Int, ∀ A4 : (Nat → Int), ∀ q4 : Bool, I0x2 ⟨[], [], [x5], [A4], [q4], [], []⟩ →
    Fork (x5 < 16) (
      Need (3 < x0) (
      Need ((-9223372036854775808) ≤ (2 * x5)) (
      Need ((2 * x5) ≤ 9223372036854775807) (
      Need (0 ≤ (2 * x5)) (
      Need ((2 * x5) < ((at2F A1 3) 0)) (
      Need ((-9223372036854775808) ≤ ((2 * x5) + 1)) (
      Need (((2 * x5) + 1) ≤ 9223372036854775807) (
      Need (0 ≤ ((2 * x5) + 1)) (
      Need (((2 * x5) + 1) < ((at2F A1 3) 0)) (
      ∃ post, Meets P 58 [.string ⟨#[48, 49, 50, 51, 52, 53, 54, 55, 56, 57, 97, 98, 99, 100, 101, 102]⟩, .int .u8 ((sbyF (at2F A1 3)) (Int.toNat (2 * x5)))] [] post ∧
      ∀ x hs, post x hs → ∃ x6 : Int, x = .int .i64 x6 ∧ hs = [] ∧
      ∃ post, Meets P 58 [.string ⟨#[48, 49, 50, 51, 52, 53, 54, 55, 56, 57, 97, 98, 99, 100, 101, 102]⟩, .int .u8 ((sbyF (at2F A1 3)) (Int.toNat ((2 * x5) + 1)))] [] post ∧
      ∀ x hs, post x hs → ∃ x7 : Int, x = .int .i64 x7 ∧ hs = [] ∧
      Need (0 ≤ x5) (
      Need ((-9223372036854775808) ≤ (x5 + 1)) (
      Need ((x5 + 1) ≤ 9223372036854775807) (
      ∃ x5' : Int, ∃ A4' : (Nat → Int), ∃ q4' : Bool, x5' = (x5 + 1) ∧ q4' = ((q4 && (decide (0 ≤ x6))) && (decide (0 ≤ x7))) ∧ (∀ j, j < 16 → A4' j = (updF A4 (Int.toNat x5) (IntKind.wrap .u8 (iop .bor .i64 (iop .shl .i64 x6 4) x7))) j) ∧ I0x2 ⟨[], [], [x5'], [A4'], [q4'], [], []⟩ ∧ m0x2 ⟨[], [], [x5'], [A4'], [q4'], [], []⟩ < m0x2 ⟨[], [], [x5], [A4], [q4], [], []⟩))))))))))))) (
      Fork (¬ (q4 = true)) (
        Post (.tuple #[.agg (.int .u8 0 :: (.int .i64 0 :: (.int .u8 0 :: (.int .u8 0 :: (List.append (segCells .u8 16 (fun _ => 0)) ([])))))).toArray, .int .i64 2]) []) (
        Post (.tuple #[.agg (.int .u8 (IntKind.wrap .u8 (x1 + 1)) :: (.int .i64 x2 :: (.int .u8 (IntKind.wrap .u8 x3) :: (.int .u8 (IntKind.wrap .u8 x4) :: (List.append (segCells .u8 16 A4) ([])))))).toArray, .int .i64 0]) []))))))))))))
theorem vc_pread (P : Program) (Post : Value → List HP → Prop) (A0 : Nat → Int) (p0 : HP) (L : Nat → LC) : VC P (fun v _ => Post v []) fm_pread { iv := [], av := [A0], bo := [], bv := [], vv := [], pv := [p0] } L = st_pread P Post A0 p0 := by kernel_rfl
theorem run_pread : runF cx 24 ([Go.RX.SV.strE (Go.RX.E.avar 0)]) ([Go.RX.Ck.abs 0]) ({ b := 0, v := 0, i := 0, a := 1, bo := 0, p := 1, r := 0 }) Tryz.f24 = fm_pread := rfl
noncomputable def fm_index : F := runF cx 55 ([Go.RX.SV.sl 0 (Go.RX.E.lit 0) 1 (Go.RX.E.lit 7) (Go.RX.E.lit 7), Go.RX.SV.strE (Go.RX.E.avar 0)]) ([Go.RX.Ck.row 0 true [Go.RX.SV.str [101, 118, 101, 110, 116], Go.RX.SV.str [98, 121, 116, 101, 115], Go.RX.SV.str [109, 105, 115, 115, 105, 110, 103], Go.RX.SV.str [117, 110, 108, 105, 107, 101], Go.RX.SV.str [109, 111, 114, 101], Go.RX.SV.str [111, 114, 100, 101, 114], Go.RX.SV.str [111, 112, 101, 110]]]) ({ b := 1, v := 0, i := 0, a := 1, bo := 0, p := 0, r := 0 }) Tryz.f55
def st_index (_ : Program) (Post : Value → List HP → Prop) (A0 : Nat → Int) (b0 : Nat) : Prop :=
 Fork (strD A0 = strD (rowLF [5, 101, 118, 101, 110, 116])) (
  Post (.int .i64 0) [rowHP b0 true ([.string ⟨#[101, 118, 101, 110, 116]⟩, .string ⟨#[98, 121, 116, 101, 115]⟩, .string ⟨#[109, 105, 115, 115, 105, 110, 103]⟩, .string ⟨#[117, 110, 108, 105, 107, 101]⟩, .string ⟨#[109, 111, 114, 101]⟩, .string ⟨#[111, 114, 100, 101, 114]⟩, .string ⟨#[111, 112, 101, 110]⟩])]) (
  Fork (strD A0 = strD (rowLF [5, 98, 121, 116, 101, 115])) (
    Post (.int .i64 1) [rowHP b0 true ([.string ⟨#[101, 118, 101, 110, 116]⟩, .string ⟨#[98, 121, 116, 101, 115]⟩, .string ⟨#[109, 105, 115, 115, 105, 110, 103]⟩, .string ⟨#[117, 110, 108, 105, 107, 101]⟩, .string ⟨#[109, 111, 114, 101]⟩, .string ⟨#[111, 114, 100, 101, 114]⟩, .string ⟨#[111, 112, 101, 110]⟩])]) (
    Fork (strD A0 = strD (rowLF [7, 109, 105, 115, 115, 105, 110, 103])) (
      Post (.int .i64 2) [rowHP b0 true ([.string ⟨#[101, 118, 101, 110, 116]⟩, .string ⟨#[98, 121, 116, 101, 115]⟩, .string ⟨#[109, 105, 115, 115, 105, 110, 103]⟩, .string ⟨#[117, 110, 108, 105, 107, 101]⟩, .string ⟨#[109, 111, 114, 101]⟩, .string ⟨#[111, 114, 100, 101, 114]⟩, .string ⟨#[111, 112, 101, 110]⟩])]) (
      Fork (strD A0 = strD (rowLF [6, 117, 110, 108, 105, 107, 101])) (
        Post (.int .i64 3) [rowHP b0 true ([.string ⟨#[101, 118, 101, 110, 116]⟩, .string ⟨#[98, 121, 116, 101, 115]⟩, .string ⟨#[109, 105, 115, 115, 105, 110, 103]⟩, .string ⟨#[117, 110, 108, 105, 107, 101]⟩, .string ⟨#[109, 111, 114, 101]⟩, .string ⟨#[111, 114, 100, 101, 114]⟩, .string ⟨#[111, 112, 101, 110]⟩])]) (
        Fork (strD A0 = strD (rowLF [4, 109, 111, 114, 101])) (
          Post (.int .i64 4) [rowHP b0 true ([.string ⟨#[101, 118, 101, 110, 116]⟩, .string ⟨#[98, 121, 116, 101, 115]⟩, .string ⟨#[109, 105, 115, 115, 105, 110, 103]⟩, .string ⟨#[117, 110, 108, 105, 107, 101]⟩, .string ⟨#[109, 111, 114, 101]⟩, .string ⟨#[111, 114, 100, 101, 114]⟩, .string ⟨#[111, 112, 101, 110]⟩])]) (
          Fork (strD A0 = strD (rowLF [5, 111, 114, 100, 101, 114])) (
            Post (.int .i64 5) [rowHP b0 true ([.string ⟨#[101, 118, 101, 110, 116]⟩, .string ⟨#[98, 121, 116, 101, 115]⟩, .string ⟨#[109, 105, 115, 115, 105, 110, 103]⟩, .string ⟨#[117, 110, 108, 105, 107, 101]⟩, .string ⟨#[109, 111, 114, 101]⟩, .string ⟨#[111, 114, 100, 101, 114]⟩, .string ⟨#[111, 112, 101, 110]⟩])]) (
            Fork (strD A0 = strD (rowLF [4, 111, 112, 101, 110])) (
              Post (.int .i64 6) [rowHP b0 true ([.string ⟨#[101, 118, 101, 110, 116]⟩, .string ⟨#[98, 121, 116, 101, 115]⟩, .string ⟨#[109, 105, 115, 115, 105, 110, 103]⟩, .string ⟨#[117, 110, 108, 105, 107, 101]⟩, .string ⟨#[109, 111, 114, 101]⟩, .string ⟨#[111, 114, 100, 101, 114]⟩, .string ⟨#[111, 112, 101, 110]⟩])]) (
              Post (.int .i64 (-1)) [rowHP b0 true ([.string ⟨#[101, 118, 101, 110, 116]⟩, .string ⟨#[98, 121, 116, 101, 115]⟩, .string ⟨#[109, 105, 115, 115, 105, 110, 103]⟩, .string ⟨#[117, 110, 108, 105, 107, 101]⟩, .string ⟨#[109, 111, 114, 101]⟩, .string ⟨#[111, 114, 100, 101, 114]⟩, .string ⟨#[111, 112, 101, 110]⟩])])))))))
theorem vc_index (P : Program) (Post : Value → List HP → Prop) (A0 : Nat → Int) (b0 : Nat) (L : Nat → LC) : VC P Post fm_index { iv := [], av := [A0], bo := [], bv := [b0], vv := [] } L = st_index P Post A0 b0 := by kernel_rfl
theorem run_index : runF cx 55 ([Go.RX.SV.sl 0 (Go.RX.E.lit 0) 1 (Go.RX.E.lit 7) (Go.RX.E.lit 7), Go.RX.SV.strE (Go.RX.E.avar 0)]) ([Go.RX.Ck.row 0 true [Go.RX.SV.str [101, 118, 101, 110, 116], Go.RX.SV.str [98, 121, 116, 101, 115], Go.RX.SV.str [109, 105, 115, 115, 105, 110, 103], Go.RX.SV.str [117, 110, 108, 105, 107, 101], Go.RX.SV.str [109, 111, 114, 101], Go.RX.SV.str [111, 114, 100, 101, 114], Go.RX.SV.str [111, 112, 101, 110]]]) ({ b := 1, v := 0, i := 0, a := 1, bo := 0, p := 0, r := 0 }) Tryz.f55 = fm_index := rfl
end Go.RX.Lq

namespace Go.RX.Lw
open Go.RX Go.Proofs
noncomputable def cx : Ctx := { T := TT, FT := FT, calls := calls, pure := Ac.pure }
set_option maxRecDepth 100000
noncomputable def fm_lines : F := runF cx 5 ([Go.RX.SV.agg [Go.RX.SV.int (Go.IntKind.u8) (Go.RX.E.var 0), Go.RX.SV.int (Go.IntKind.i64) (Go.RX.E.var 1), Go.RX.SV.int (Go.IntKind.u8) (Go.RX.E.var 2), Go.RX.SV.int (Go.IntKind.u8) (Go.RX.E.var 3), Go.RX.SV.seg (Go.IntKind.u8) 16 (Go.RX.E.avar 0)], Go.RX.SV.strE (Go.RX.E.avar 1)]) ([Go.RX.Ck.abs 0]) ({ b := 0, v := 0, i := 4, a := 2, bo := 0, p := 1, r := 0 }) Tryz.f5
def st_lines (P : Program) (Post : Value → List HP → Prop) (x0 : Int) (x1 : Int) (x2 : Int) (x3 : Int) (A0 : Nat → Int) (A1 : Nat → Int) (p0 : HP) : Prop :=
∀ _ : Nat, Need (0 ≤ (A1 0)) (
 Fork ((300 < (A1 0)) ∨ (2147483647 < x1)) (
  Post (.bool true) []) (
  ∃ post, Meets P 22 [.agg (.int .u8 x0 :: (.int .i64 x1 :: (.int .u8 x2 :: (.int .u8 x3 :: (List.append (segCells .u8 16 A0) ([])))))).toArray] [p0] post ∧
  ∀ x hs, post x hs → ∃ A2 : (Nat → Int), ∃ q0 : Bool, x = .tuple #[.string ⟨(strD A2).toArray⟩, .bool q0] ∧ hs = [p0] ∧
  ∃ post, Meets P 23 [.agg (.int .u8 x0 :: (.int .i64 x1 :: (.int .u8 x2 :: (.int .u8 x3 :: (List.append (segCells .u8 16 A0) ([])))))).toArray] [] post ∧
  ∀ x hs, post x hs → ∃ A3 : (Nat → Int), x = .string ⟨(strD A3).toArray⟩ ∧ hs = [] ∧
  ∃ post, Meets P 24 [.string ⟨(strD A1).toArray⟩] [p0] post ∧
  ∀ x hs, post x hs → ∃ x4 : Int, ∃ x5 : Int, ∃ x6 : Int, ∃ x7 : Int, ∃ x8 : Int, ∃ A4 : (Nat → Int), x = .tuple #[.agg (.int .u8 x4 :: (.int .i64 x5 :: (.int .u8 x6 :: (.int .u8 x7 :: (List.append (segCells .u8 16 A4) ([])))))).toArray, .int .i64 x8] ∧ hs = [p0] ∧
  ∀ _ : Nat, ∃ post, Meets P 25 [.string ⟨(strD A1).toArray⟩] [] post ∧
  ∀ x hs, post x hs → ∃ x9 : Int, ∃ x10 : Int, ∃ x11 : Int, ∃ x12 : Int, ∃ A5 : (Nat → Int), ∃ q1 : Bool, x = .tuple #[.agg (.int .u8 x9 :: (.int .i64 x10 :: (.int .u8 x11 :: (.int .u8 x12 :: (List.append (segCells .u8 16 A5) ([])))))).toArray, .bool q1] ∧ hs = [] ∧
  ∀ _ : Nat, Fork (((((¬ (strD A2 = strD A3)) ∨ (¬ (((q0 = true) → (¬ (strD A3 = strD (rowLF [0])))) ∧ (¬ (q0 = true) → (strD A3 = strD (rowLF [0])))))) ∨ (¬ ((x4 = x9) ∧ ((x5 = x10) ∧ ((x6 = x11) ∧ ((x7 = x12) ∧ (∀ j, j < 16 → A4 j = A5 j))))))) ∨ (¬ (((x8 = 0) → (q1 = true)) ∧ (¬ (x8 = 0) → (¬ (q1 = true)))))) ∨ ((¬ (q1 = true)) ∧ (¬ (x8 = 2)))) (
    Post (.bool false) []) (
    Fork (¬ (q0 = true)) (
      Post (.bool true) []) (
      ∃ post, Meets P 24 [.string ⟨(strD A2).toArray⟩] [p0] post ∧
      ∀ x hs, post x hs → ∃ x13 : Int, ∃ x14 : Int, ∃ x15 : Int, ∃ x16 : Int, ∃ x17 : Int, ∃ A6 : (Nat → Int), x = .tuple #[.agg (.int .u8 x13 :: (.int .i64 x14 :: (.int .u8 x15 :: (.int .u8 x16 :: (List.append (segCells .u8 16 A6) ([])))))).toArray, .int .i64 x17] ∧ hs = [p0] ∧
      ∀ _ : Nat, Post (.bool ((x17 == 0) && ((x13 == x0) && ((x14 == x1) && ((x15 == x2) && ((x16 == x3) && ((List.range 16).all fun j => A6 j == A0 j))))))) []))))
theorem vc_lines (P : Program) (Post : Value → List HP → Prop) (x0 : Int) (x1 : Int) (x2 : Int) (x3 : Int) (A0 : Nat → Int) (A1 : Nat → Int) (p0 : HP) (L : Nat → LC) : VC P (fun v _ => Post v []) fm_lines { iv := [x0, x1, x2, x3], av := [A0, A1], bo := [], bv := [], vv := [], pv := [p0] } L = st_lines P Post x0 x1 x2 x3 A0 A1 p0 := by kernel_rfl
theorem run_lines : runF cx 5 ([Go.RX.SV.agg [Go.RX.SV.int (Go.IntKind.u8) (Go.RX.E.var 0), Go.RX.SV.int (Go.IntKind.i64) (Go.RX.E.var 1), Go.RX.SV.int (Go.IntKind.u8) (Go.RX.E.var 2), Go.RX.SV.int (Go.IntKind.u8) (Go.RX.E.var 3), Go.RX.SV.seg (Go.IntKind.u8) 16 (Go.RX.E.avar 0)], Go.RX.SV.strE (Go.RX.E.avar 1)]) ([Go.RX.Ck.abs 0]) ({ b := 0, v := 0, i := 4, a := 2, bo := 0, p := 1, r := 0 }) Tryz.f5 = fm_lines := rfl
end Go.RX.Lw
