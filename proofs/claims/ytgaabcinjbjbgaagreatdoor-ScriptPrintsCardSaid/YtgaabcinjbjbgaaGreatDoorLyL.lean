/- AuditLines: the program's reader of numbers. -/
import Derived.Test.YtgaabcinjbjbgaaGreatDoorAuCtx
import Derived.Test.YtgaabcinjbjbgaaGreatDoorAuA
import Derived.Test.YtgaabcinjbjbgaaGreatDoorRyK
import Derived.Test.YtgaabcinjbjbgaaGreatDoorLyA
import Derived.Lib.ParseIntBCases
import Derived.Lib.ParseIntBMem
import Derived.Test.YtgaabcinjbjbgaaGreatDoorLyS
import Derived.Test.YtgaabcinjbjbgaaGreatDoorLyW

namespace Go.RX.Lu
open Go.RX Go.Proofs
/-- The types, and the library's Error. -/
noncomputable def TE : List TI := ⟨231, .int .i64, 1, 8, [.int .i64 (.lit 0)], []⟩ :: TT
theorem okTE : checkT Tryz.prog TE = true := by kernel_rfl
noncomputable def cx : Ctx := { T := TE, FT := FT, loops := loops }
set_option maxRecDepth 100000
noncomputable def fm_parse31 : F := runF cx 110 ([Go.RX.SV.strE (Go.RX.E.avar 0), Go.RX.SV.int (Go.IntKind.i64) (Go.RX.E.lit 10), Go.RX.SV.int (Go.IntKind.i64) (Go.RX.E.lit 31)]) ([]) ({ b := 0, v := 0, i := 0, a := 1, bo := 0, p := 0, r := 0 }) Tryz.f110
def st_parse31 (_ : Program) (Post : Value → List HP → Prop) (A0 : Nat → Int) : Prop :=
 Fork (strD A0 = strD (rowLF [0])) (
  Post (.tuple #[.int .u64 0, (.iface 231 (.int .i64 2))]) []) (
  Need (0 ≤ (A0 0)) (
  ∀ _ : V1, ∃ (I0x2 : Ext → Prop) (m0x2 : Ext → Nat), (∃ x0 : Int, ∃ x1 : Int, x0 = 0 ∧ x1 = 0 ∧ I0x2 ⟨[], [], [x0, x1], [], [], [], []⟩) ∧
  ∀ x0 : Int, ∀ x1 : Int, I0x2 ⟨[], [], [x0, x1], [], [], [], []⟩ →
    Fork (x0 < (A0 0)) (
      Need (0 ≤ x0) (
      Fork ((((sbyF A0) (Int.toNat x0)) = 95) ∧ (false = true)) (
        Need ((-9223372036854775808) ≤ (x0 + 1)) (
        Need ((x0 + 1) ≤ 9223372036854775807) (
        ∃ x0' : Int, ∃ x1' : Int, x0' = (x0 + 1) ∧ x1' = x1 ∧ false = true ∧ I0x2 ⟨[], [], [x0', x1'], [], [], [], []⟩ ∧ m0x2 ⟨[], [], [x0', x1'], [], [], [], []⟩ < m0x2 ⟨[], [], [x0, x1], [], [], [], []⟩))) (
        Fork ((48 ≤ ((sbyF A0) (Int.toNat x0))) ∧ (((sbyF A0) (Int.toNat x0)) ≤ 57)) (
          Fork (10 ≤ (IntKind.wrap .u8 (((sbyF A0) (Int.toNat x0)) - 48))) (
            Post (.tuple #[.int .u64 0, (.iface 231 (.int .i64 2))]) []) (
            Fork (1844674407370955162 ≤ x1) (
              Post (.tuple #[.int .u64 2147483647, (.iface 231 (.int .i64 1))]) []) (
              Fork (((IntKind.wrap .u64 ((IntKind.wrap .u64 (x1 * 10)) + (IntKind.wrap .u64 (IntKind.wrap .u8 (((sbyF A0) (Int.toNat x0)) - 48))))) < (IntKind.wrap .u64 (x1 * 10))) ∨ (2147483647 < (IntKind.wrap .u64 ((IntKind.wrap .u64 (x1 * 10)) + (IntKind.wrap .u64 (IntKind.wrap .u8 (((sbyF A0) (Int.toNat x0)) - 48))))))) (
                Post (.tuple #[.int .u64 2147483647, (.iface 231 (.int .i64 1))]) []) (
                Need ((-9223372036854775808) ≤ (x0 + 1)) (
                Need ((x0 + 1) ≤ 9223372036854775807) (
                ∃ x0' : Int, ∃ x1' : Int, x0' = (x0 + 1) ∧ x1' = (IntKind.wrap .u64 ((IntKind.wrap .u64 (x1 * 10)) + (IntKind.wrap .u64 (IntKind.wrap .u8 (((sbyF A0) (Int.toNat x0)) - 48))))) ∧ I0x2 ⟨[], [], [x0', x1'], [], [], [], []⟩ ∧ m0x2 ⟨[], [], [x0', x1'], [], [], [], []⟩ < m0x2 ⟨[], [], [x0, x1], [], [], [], []⟩)))))) (
          Fork (97 ≤ (iop .bor .u8 ((sbyF A0) (Int.toNat x0)) 32)) (
            Fork ((iop .bor .u8 ((sbyF A0) (Int.toNat x0)) 32) ≤ 122) (
              Fork (10 ≤ (IntKind.wrap .u8 ((IntKind.wrap .u8 ((iop .bor .u8 ((sbyF A0) (Int.toNat x0)) 32) - 97)) + 10))) (
                Post (.tuple #[.int .u64 0, (.iface 231 (.int .i64 2))]) []) (
                Fork (1844674407370955162 ≤ x1) (
                  Post (.tuple #[.int .u64 2147483647, (.iface 231 (.int .i64 1))]) []) (
                  Fork (((IntKind.wrap .u64 ((IntKind.wrap .u64 (x1 * 10)) + (IntKind.wrap .u64 (IntKind.wrap .u8 ((IntKind.wrap .u8 ((iop .bor .u8 ((sbyF A0) (Int.toNat x0)) 32) - 97)) + 10))))) < (IntKind.wrap .u64 (x1 * 10))) ∨ (2147483647 < (IntKind.wrap .u64 ((IntKind.wrap .u64 (x1 * 10)) + (IntKind.wrap .u64 (IntKind.wrap .u8 ((IntKind.wrap .u8 ((iop .bor .u8 ((sbyF A0) (Int.toNat x0)) 32) - 97)) + 10))))))) (
                    Post (.tuple #[.int .u64 2147483647, (.iface 231 (.int .i64 1))]) []) (
                    Need ((-9223372036854775808) ≤ (x0 + 1)) (
                    Need ((x0 + 1) ≤ 9223372036854775807) (
                    ∃ x0' : Int, ∃ x1' : Int, x0' = (x0 + 1) ∧ x1' = (IntKind.wrap .u64 ((IntKind.wrap .u64 (x1 * 10)) + (IntKind.wrap .u64 (IntKind.wrap .u8 ((IntKind.wrap .u8 ((iop .bor .u8 ((sbyF A0) (Int.toNat x0)) 32) - 97)) + 10))))) ∧ I0x2 ⟨[], [], [x0', x1'], [], [], [], []⟩ ∧ m0x2 ⟨[], [], [x0', x1'], [], [], [], []⟩ < m0x2 ⟨[], [], [x0, x1], [], [], [], []⟩)))))) (
              Post (.tuple #[.int .u64 0, (.iface 231 (.int .i64 2))]) [])) (
            Post (.tuple #[.int .u64 0, (.iface 231 (.int .i64 2))]) []))))) (
      Post (.tuple #[.int .u64 x1, .nilIface]) [])))
theorem vc_parse31 (P : Program) (Post : Value → List HP → Prop) (A0 : Nat → Int) (L : Nat → LC) : VC P (fun v _ => Post v []) fm_parse31 { iv := [], av := [A0], bo := [], bv := [], vv := [] } L = st_parse31 P Post A0 := by kernel_rfl
theorem run_parse31 : runF cx 110 ([Go.RX.SV.strE (Go.RX.E.avar 0), Go.RX.SV.int (Go.IntKind.i64) (Go.RX.E.lit 10), Go.RX.SV.int (Go.IntKind.i64) (Go.RX.E.lit 31)]) ([]) ({ b := 0, v := 0, i := 0, a := 1, bo := 0, p := 0, r := 0 }) Tryz.f110 = fm_parse31 := rfl
end Go.RX.Lu

namespace Go.RX.Lu
open Go Go.RX Go.Proofs Go.RX.Ln

theorem row_empty (l : List UInt8) : strD (rowS l) = strD (rowLF [0]) ↔ l = [] := by
  rw [strD_rowS]
  exact Iff.rfl
def resV (x : Lib.NumEnd Nat) : Value := Lib.uintTupleM 231 2147483647 x
theorem parse31_meets (l : List UInt8) (hl : l.length ≤ 4611686018427387904) : Meets Tryz.prog 110 [strV l, .int .i64 10, .int .i64 31] [] (fun v hs => v = resV (Lib.parseUintB 31 l) ∧ hs = []) := by
  have e0 : strV l = (SV.strE (.avar 0)).val { av := [rowS l] } := strV_row l
  rw [e0]
  refine Meets.of_bare (C := cx) (cnt := { a := 1 }) (ρ := { av := [rowS l] }) okTE okFT okM Tryz.func110 (by constructor <;> rfl) (fun v => v = resV (Lib.parseUintB 31 l))
    (args := [.strE (.avar 0), .int .i64 (.lit 10), .int .i64 (.lit 31)]) run_parse31 (vc_parse31 Tryz.prog (fun v _ => v = resV (Lib.parseUintB 31 l)) (rowS l) (fun _ => LC.none)) ?_
  unfold st_parse31
  rw [rowS0]
  refine ⟨fun h => ?_, fun h => ?_⟩
  · show _ = _
    rw [(row_empty l).1 h]
    rfl
  · have hne : l ≠ [] := fun e => h ((row_empty l).2 e)
    have hB : Lib.parseUintB 31 l = Lib.parseUintM 2147483647 0 l := by rw [Lib.parseUintB, if_neg hne]
    rw [hB]
    refine ⟨by omega, fun _ _ => ?_⟩
    refine ⟨fun e => 0 ≤ e.i.getD 0 0 ∧ e.i.getD 0 0 ≤ l.length ∧ 0 ≤ e.i.getD 1 0 ∧ e.i.getD 1 0 ≤ 2147483647 ∧ Lib.parseUintM 2147483647 (e.i.getD 1 0).toNat (l.drop (e.i.getD 0 0).toNat) = Lib.parseUintM 2147483647 0 l, fun e => ((l.length : Int) - e.i.getD 0 0).toNat,
      ⟨0, 0, rfl, rfl, by simp⟩, ?_⟩
    rintro p n ⟨hp0, hp1, hn0, hn1, hrun⟩
    simp only [List.getD_cons_zero, List.getD_cons_succ] at hp0 hp1 hn0 hn1 hrun
    refine ⟨fun hp => ?_, fun hp => ?_⟩
    · refine ⟨hp0, fun _ => ?_⟩
      have hpl : p.toNat < l.length := by omega
      rw [sby_row l _ hpl]
      rw [List.drop_eq_getElem_cons hpl] at hrun
      generalize l[p.toNat] = c at hrun
      have hc := c.toNat_lt
      rw [Lib.parseUintM] at hrun
      refine ⟨fun h => absurd h.2 (by decide), fun _ => ⟨fun hd => ?_, fun hd => ?_⟩⟩
      · have hw : IntKind.wrap .u8 ((c.toNat : Int) - 48) = c.toNat - 48 := IntWalk.u8_in _ (by omega)
        rw [hw]
        rw [if_pos (by omega), if_neg (by omega)] at hrun
        refine ⟨fun h => absurd h (by omega), fun _ => ⟨fun h => absurd h (by omega), fun _ => ?_⟩⟩
        rw [IntWalk.u64_in (n * 10) (by omega), IntWalk.u64_in ((c.toNat : Int) - 48) (by omega), IntWalk.u64_in (n * 10 + ((c.toNat : Int) - 48)) (by omega)]
        refine ⟨fun h => ?_, fun h => ⟨by omega, fun _ => ⟨by omega, fun _ => ⟨_, _, rfl, rfl, ⟨?_, ?_, ?_, ?_, ?_⟩, ?_⟩⟩⟩⟩
        · show _ = _
          rw [if_pos (by omega)] at hrun
          rw [← hrun]
          rfl
        · simp only [List.getD_cons_zero]; omega
        · simp only [List.getD_cons_zero]; omega
        · simp only [List.getD_cons_zero, List.getD_cons_succ]; omega
        · simp only [List.getD_cons_zero, List.getD_cons_succ]; omega
        · simp only [List.getD_cons_zero, List.getD_cons_succ]
          rw [if_neg (by omega)] at hrun
          rw [← hrun, show (p + 1).toNat = p.toNat + 1 by omega, show (n * 10 + ((c.toNat : Int) - 48)).toNat = n.toNat * 10 + (c.toNat - 48) by omega]
        · simp only [List.getD_cons_zero]; omega
      · rw [if_neg (by omega)] at hrun
        have post : (.tuple #[.int .u64 0, (.iface 231 (.int .i64 2))] : Value) = resV (Lib.parseUintM 2147483647 0 l) := by rw [← hrun]; rfl
        refine ⟨fun h97 => ⟨fun h122 => ⟨fun _ => post, fun h10 => ?_⟩, fun _ => post⟩, fun _ => post⟩
        rw [IntWalk.u8_in (iop .bor .u8 (c.toNat : Int) 32 - 97) (by omega), IntWalk.u8_in _ (by omega)] at h10
        omega
    · show _ = _
      rw [List.drop_eq_nil_of_le (by omega)] at hrun
      rw [← hrun]
      show Value.tuple #[.int .u64 n, .nilIface] = Value.tuple #[.int .u64 (n.toNat : Int), .nilIface]
      rw [Int.toNat_of_nonneg hn0]
end Go.RX.Lu

namespace Go.RX.Lf
open Go.RX Go.Proofs
noncomputable def cxF : Ctx := { T := TT, FT := FT, calls := callsF }
noncomputable def cxOk : Ctx := { T := TT, FT := FT, calls := callsOk }
noncomputable def cxErr : Ctx := { T := TT, FT := FT, calls := callsErr }
noncomputable def cxN : Ctx := { T := TT, FT := FT, calls := callsN }
set_option maxRecDepth 100000
noncomputable def fm_fmt : F := runF cxF 71 ([Go.RX.SV.int (Go.IntKind.u64) (Go.RX.E.var 0), Go.RX.SV.int (Go.IntKind.i64) (Go.RX.E.lit 10)]) ([Go.RX.Ck.abs 0]) ({ b := 0, v := 0, i := 1, a := 0, bo := 0, p := 1, r := 0 }) Tryz.f71
def st_fmt (P : Program) (Post : Value → List HP → Prop) (x0 : Int) (p0 : HP) : Prop :=
 Fork (x0 < 100) (
  Need ((-9223372036854775808) ≤ x0) (
  Need (x0 ≤ 9223372036854775807) (
  ∃ post, Meets P 119 [.int .i64 x0] [] post ∧
  ∀ x hs, post x hs → ∃ A0 : (Nat → Int), x = .string ⟨(strD A0).toArray⟩ ∧ hs = [] ∧
  Post (.string ⟨(strD A0).toArray⟩) []))) (
  ∀ b0 : Nat, ∃ post, Meets P 120 [.int .u64 x0] [p0] post ∧
  ∀ x hs, post x hs → ∃ x1 : Int, x = .int .i64 x1 ∧ hs = [p0] ∧
  Need (0 ≤ x1) (
  Need (x1 ≤ 24) (
  ∃ post, Meets P 121 [.slice (some ⟨b0, 0, none⟩) (Int.toNat x1) 24, .int .u64 x0] [rowHP b0 true (List.append (segCells .u8 24 (fun _ => 0)) ([]))] post ∧
  ∀ x hs, post x hs → ∃ A0 : (Nat → Int), x = .tuple #[] ∧ hs = [rowHP b0 true (List.append (segCells .u8 24 A0) ([]))] ∧
  Post (.string ⟨(strD (bytF A0 x1)).toArray⟩) [])))
theorem vc_fmt (P : Program) (Post : Value → List HP → Prop) (x0 : Int) (p0 : HP) (L : Nat → LC) : VC P (fun v _ => Post v []) fm_fmt { iv := [x0], av := [], bo := [], bv := [], vv := [], pv := [p0] } L = st_fmt P Post x0 p0 := by kernel_rfl
theorem run_fmt : runF cxF 71 ([Go.RX.SV.int (Go.IntKind.u64) (Go.RX.E.var 0), Go.RX.SV.int (Go.IntKind.i64) (Go.RX.E.lit 10)]) ([Go.RX.Ck.abs 0]) ({ b := 0, v := 0, i := 1, a := 0, bo := 0, p := 1, r := 0 }) Tryz.f71 = fm_fmt := rfl
noncomputable def fm_pok : F := runF cxOk 88 ([Go.RX.SV.strE (Go.RX.E.avar 0), Go.RX.SV.int (Go.IntKind.i64) (Go.RX.E.lit 10), Go.RX.SV.int (Go.IntKind.i64) (Go.RX.E.var 0)]) ([Go.RX.Ck.abs 0]) ({ b := 0, v := 0, i := 1, a := 1, bo := 0, p := 1, r := 0 }) Tryz.f88
def st_pok (P : Program) (Post : Value → List HP → Prop) (x0 : Int) (A0 : Nat → Int) (_ : HP) : Prop :=
∃ post, Meets P 110 [.string ⟨(strD A0).toArray⟩, .int .i64 10, .int .i64 x0] [] post ∧
∀ x hs, post x hs → ∃ x1 : Int, x = .tuple #[.int .u64 x1, .nilIface] ∧ hs = [] ∧
 Post (.tuple #[.int .u64 x1, .nilIface]) []
theorem vc_pok (P : Program) (Post : Value → List HP → Prop) (x0 : Int) (A0 : Nat → Int) (p0 : HP) (L : Nat → LC) : VC P (fun v _ => Post v []) fm_pok { iv := [x0], av := [A0], bo := [], bv := [], vv := [], pv := [p0] } L = st_pok P Post x0 A0 p0 := by kernel_rfl
theorem run_pok : runF cxOk 88 ([Go.RX.SV.strE (Go.RX.E.avar 0), Go.RX.SV.int (Go.IntKind.i64) (Go.RX.E.lit 10), Go.RX.SV.int (Go.IntKind.i64) (Go.RX.E.var 0)]) ([Go.RX.Ck.abs 0]) ({ b := 0, v := 0, i := 1, a := 1, bo := 0, p := 1, r := 0 }) Tryz.f88 = fm_pok := rfl
noncomputable def fm_perr : F := runF cxErr 88 ([Go.RX.SV.strE (Go.RX.E.avar 0), Go.RX.SV.int (Go.IntKind.i64) (Go.RX.E.lit 10), Go.RX.SV.int (Go.IntKind.i64) (Go.RX.E.var 0)]) ([Go.RX.Ck.abs 0]) ({ b := 0, v := 0, i := 1, a := 1, bo := 0, p := 1, r := 0 }) Tryz.f88
def st_perr (P : Program) (Post : Value → List HP → Prop) (x0 : Int) (A0 : Nat → Int) (p0 : HP) : Prop :=
∃ post, Meets P 110 [.string ⟨(strD A0).toArray⟩, .int .i64 10, .int .i64 x0] [] post ∧
∀ x hs, post x hs → ∃ x1 : Int, ∃ x2 : Int, x = .tuple #[.int .u64 x1, (.iface 231 (.int .i64 x2))] ∧ hs = [] ∧
∃ post, Meets P 111 [.string ⟨#[80, 97, 114, 115, 101, 85, 105, 110, 116]⟩, .string ⟨(strD A0).toArray⟩, .int .i64 10, .int .i64 x0, (.iface 231 (.int .i64 x2))] [p0] post ∧
∀ x hs, post x hs → ∃ v0 : V1, x = (if true then ifaceOf v0.v else .nilIface) ∧ hs = [p0] ∧
 Post (.tuple #[.int .u64 x1, (if true then ifaceOf v0.v else .nilIface)]) []
theorem vc_perr (P : Program) (Post : Value → List HP → Prop) (x0 : Int) (A0 : Nat → Int) (p0 : HP) (L : Nat → LC) : VC P (fun v _ => Post v []) fm_perr { iv := [x0], av := [A0], bo := [], bv := [], vv := [], pv := [p0] } L = st_perr P Post x0 A0 p0 := by kernel_rfl
theorem run_perr : runF cxErr 88 ([Go.RX.SV.strE (Go.RX.E.avar 0), Go.RX.SV.int (Go.IntKind.i64) (Go.RX.E.lit 10), Go.RX.SV.int (Go.IntKind.i64) (Go.RX.E.var 0)]) ([Go.RX.Ck.abs 0]) ({ b := 0, v := 0, i := 1, a := 1, bo := 0, p := 1, r := 0 }) Tryz.f88 = fm_perr := rfl
noncomputable def fm_num : F := runF cxN 57 ([Go.RX.SV.strE (Go.RX.E.avar 0), Go.RX.SV.int (Go.IntKind.i64) (Go.RX.E.var 0)]) ([Go.RX.Ck.abs 0]) ({ b := 0, v := 0, i := 1, a := 1, bo := 0, p := 1, r := 0 }) Tryz.f57
def st_num (P : Program) (Post : Value → List HP → Prop) (x0 : Int) (A0 : Nat → Int) (p0 : HP) : Prop :=
∃ post, Meets P 88 [.string ⟨(strD A0).toArray⟩, .int .i64 10, .int .i64 x0] [p0] post ∧
∀ x hs, post x hs → ∃ v0 : V1, ∃ x1 : Int, ∃ q0 : Bool, x = .tuple #[.int .u64 x1, (if q0 then ifaceOf v0.v else .nilIface)] ∧ hs = [p0] ∧
 Need ((-9223372036854775808) ≤ x1) (
 Need (x1 ≤ 9223372036854775807) (
 Fork (¬ (q0 = true)) (
  ∃ post, Meets P 71 [.int .u64 x1, .int .i64 10] [p0] post ∧
  ∀ x hs, post x hs → ∃ A1 : (Nat → Int), x = .string ⟨(strD A1).toArray⟩ ∧ hs = [p0] ∧
  Post (.tuple #[.int .i64 x1, .bool (strD A1 == strD A0)]) []) (
  Post (.tuple #[.int .i64 x1, .bool false]) [])))
theorem vc_num (P : Program) (Post : Value → List HP → Prop) (x0 : Int) (A0 : Nat → Int) (p0 : HP) (L : Nat → LC) : VC P (fun v _ => Post v []) fm_num { iv := [x0], av := [A0], bo := [], bv := [], vv := [], pv := [p0] } L = st_num P Post x0 A0 p0 := by kernel_rfl
theorem run_num : runF cxN 57 ([Go.RX.SV.strE (Go.RX.E.avar 0), Go.RX.SV.int (Go.IntKind.i64) (Go.RX.E.var 0)]) ([Go.RX.Ck.abs 0]) ({ b := 0, v := 0, i := 1, a := 1, bo := 0, p := 1, r := 0 }) Tryz.f57 = fm_num := rfl
end Go.RX.Lf

namespace Go.RX.Lf
open Go Go.RX Go.Proofs Go.RX.Ln Go.RX.Lp Go.RowKit
variable {w0 : World} {n0 : Nat}

theorem small_meets (i : Nat) (h : i < 100) : Meets Tryz.prog 119 [.int .i64 i] [] fun x hs => x = strV (Lib.decDigits i) ∧ hs = [] := Au.meets_pure fun w => Tryz.internal_strconv_small i h w
theorem nd_meets (hL : Laid0 w0 n0) (u : Nat) (h1 : 1 ≤ u) (h2 : u < 18446744073709551616) : Meets Tryz.prog 120 [.int .u64 u] [keptHP n0 w0] fun x hs => x = .int .i64 (Lib.nDigits u) ∧ hs = [keptHP n0 w0] :=
  meets_kept fun w hk => (Tryz.internal_strconv_numDigits u h1 h2 w (hL.keep hk).tab).mono fun e w' ⟨he, hw⟩ => ⟨he, by subst hw; exact Below.refl _ _⟩
theorem put_seg (n : Nat) (dk : Array UInt8) (hd : dk.size = n) : Sort.putCells (fun (b : UInt8) => Value.int .u8 (b.toNat : Int)) 0 dk (segCells .u8 24 (fun _ => 0)).toArray = (segCells .u8 24 (fun j => if j < n then (dk[j]!.toNat : Int) else 0)).toArray := by
  apply Array.ext_getElem?
  intro k
  simp only [Sort.putCells, Array.getElem?_mapIdx, List.getElem?_toArray, segCells_getElem?]
  by_cases hk : k < 24
  · rw [if_pos hk, if_pos hk, Option.map_some]
    by_cases hn : k < n
    · rw [if_pos ⟨Nat.zero_le _, by omega⟩, if_pos hn, Nat.sub_zero]
    · rw [if_neg (by omega), if_neg hn]
  · rw [if_neg hk, if_neg hk]
    rfl
theorem fb_meets (b u : Nat) (h64 : u < 18446744073709551616) (hn : Lib.nDigits u ≤ 20) : Meets Tryz.prog 121 [.slice (some ⟨b, 0, none⟩) (Lib.nDigits u) 24, .int .u64 u] [rowHP b true (segCells .u8 24 (fun _ => 0))]
    fun x hs => x = .tuple #[] ∧ ∃ A : Nat → Int, ((List.range (Lib.nDigits u)).map fun j => UInt8.ofNat (A j).toNat) = Lib.decDigits u ∧ hs = [rowHP b true (segCells .u8 24 A)] := by
  intro w Fs ho
  obtain ⟨S, hS⟩ := ho
  obtain ⟨⟨h1, ty, fz, h2, h3⟩, hlt⟩ := hS.at_ 0 (rowHP b true (segCells .u8 24 (fun _ => 0))) rfl
  obtain rfl := h3 rfl
  have hH : Sort.Holds (fun (b : UInt8) => Value.int .u8 (b.toNat : Int)) w b 0 (Array.replicate (Lib.nDigits u) 0) := by
    intro j hj
    rw [Array.size_replicate] at hj
    constructor
    · simp only [World.cell?, h2, List.getElem?_toArray, segCells_getElem?, Nat.zero_add]
      rw [if_pos (show j < 24 by omega)]
      simp [hj]
    · simp [World.frozen?, h2]
  have hf := Tryz.internal_strconv_formatBase10 b 0 24 u (Array.replicate (Lib.nDigits u) 0) w hH (by rw [Array.size_replicate]; exact Lib.lt_pow_nDigits u) h64 (by rw [Array.size_replicate]; omega)
  rw [Array.size_replicate] at hf
  refine hf.mono ?_
  rintro e w' ⟨rfl, k, v', dk, rfl, hF⟩
  have hsz := hF.size
  have hdig : ((List.range (Lib.nDigits u)).map fun j => UInt8.ofNat ((fun j => if j < Lib.nDigits u then (dk[j]!.toNat : Int) else 0) j).toNat) = Lib.decDigits u := by
    apply List.ext_getElem
    · simp [Lib.decDigits_length]
    · intro j hj1 hj2
      rw [Lib.row_is_numeral hF j hj2]
      have : j < Lib.nDigits u := by rw [Lib.decDigits_length] at hj2; exact hj2
      simp [this]
  have hheap : ∀ q, ((Sort.putRow (fun (b : UInt8) => Value.int .u8 (b.toNat : Int)) w b 0 dk).drewN k).heap[q]? = if b = q then some (.cells (segCells .u8 24 (fun j => if j < Lib.nDigits u then (dk[j]!.toNat : Int) else 0)).toArray ty (0, 0)) else w.heap[q]? := by
    intro q
    show (w.heap.modify b (Sort.onCells (Sort.putCells (fun (b : UInt8) => Value.int .u8 (b.toNat : Int)) 0 dk)))[q]? = _
    rw [Array.getElem?_modify]
    by_cases hq : b = q
    · subst hq
      rw [if_pos rfl, if_pos rfl, h2, Option.map_some]
      simp only [Sort.onCells]
      rw [put_seg (Lib.nDigits u) dk hsz]
    · rw [if_neg hq, if_neg hq]
  have hsize : ((Sort.putRow (fun (b : UInt8) => Value.int .u8 (b.toNat : Int)) w b 0 dk).drewN k).heap.size = w.heap.size := Array.size_modify
  refine ⟨_, _, rfl, ⟨rfl, _, hdig, rfl⟩, ⟨_, hS.step 0 (rowHP b true (segCells .u8 24 (fun _ => 0))) (rowHP b true (segCells .u8 24 (fun j => if j < Lib.nDigits u then (dk[j]!.toNat : Int) else 0))) rfl rfl (fun k => k = b) (Nat.le_of_eq hsize.symm) ?_ ?_ ?_⟩, ⟨rfl, rfl, rfl, Nat.le_of_eq hsize.symm⟩⟩
  · intro q _ hq
    rw [hheap, if_neg (fun e => hq ((h1 q).2 e.symm))]
  · exact ⟨fun _ => Iff.rfl, ty, (0, 0), by rw [hheap, if_pos rfl], fun _ => rfl⟩
  · intro q hq
    exact Or.inl ((h1 q).2 hq)
theorem fmt_meets (hL : Laid0 w0 n0) (u : Nat) (h64 : u ≤ 18446744073709551615) : Meets Tryz.prog 71 [.int .u64 u, .int .i64 10] [keptHP n0 w0] fun x hs => x = strV (Lib.decDigits u) ∧ hs = [keptHP n0 w0] := by
  refine Meets.of_look (C := cxF) (cnt := { i := 1, p := 1 }) (ρ := { iv := [(u : Int)], pv := [keptHP n0 w0] }) okT okFT okM Tryz.func71 (by constructor <;> rfl) rfl rfl
    (fun v => v = strV (Lib.decDigits u)) (args := [.int .u64 (.var 0), .int .i64 (.lit 10)]) run_fmt (vc_fmt Tryz.prog (fun v _ => v = strV (Lib.decDigits u)) u (keptHP n0 w0) (fun _ => LC.none)) ?_
  unfold st_fmt
  refine ⟨fun h => ⟨by omega, fun _ => ⟨by omega, fun _ => ⟨_, small_meets u (by omega), ?_⟩⟩⟩, fun h b => ?_⟩
  · rintro _ _ ⟨rfl, rfl⟩
    exact ⟨rowS (Lib.decDigits u), strV_row _, rfl, by rw [strD_rowS]; rfl⟩
  · have hn := Lib.numDigits_eq u (by omega) (by omega)
    have hn20 : Lib.nDigits u ≤ 20 := by split at hn <;> omega
    refine ⟨_, nd_meets hL u (by omega) (by omega), ?_⟩
    rintro _ _ ⟨rfl, rfl⟩
    refine ⟨(Lib.nDigits u : Int), rfl, rfl, by omega, fun _ => ⟨by omega, fun _ => ?_⟩⟩
    rw [Int.toNat_natCast]
    have fb := fb_meets b u (by omega) hn20
    refine ⟨_, by simpa using fb, ?_⟩
    rintro _ _ ⟨rfl, A, hA, rfl⟩
    refine ⟨A, rfl, by simp, ?_⟩
    show Value.string _ = _
    rw [strD_bytF, Int.toNat_natCast, hA]
    rfl
def okM8 (B : Nat) : Prop := B = 8 ∨ B = 31
theorem below_bytes (w : World) (t : ByteArray) {w' : World} (h : w' = w ∨ w' = Lib.bytesWorld w 5 t) : Below w.heap.size w w' := by
  rcases h with rfl | rfl
  · exact Below.refl _ _
  · exact Lib.bytesWorld_below _ _ _
/-- What strconv.ParseUint answers: the number, or an error that is not nil. -/
def PU (B : Nat) (l : List UInt8) (v : Value) : Prop := ∃ n : Nat, n ≤ 2 ^ B - 1 ∧ ((v = .tuple #[.int .u64 n, .nilIface] ∧ Lib.parseUintB B l = .ok n) ∨ ∃ t x, v = .tuple #[.int .u64 n, .iface t x] ∧ Lib.parseUintB B l ≠ .ok n ∧ numP B l = (n, false))
theorem meets_PU {f B : Nat} {l : List UInt8} {args : List Value} (h : ∀ w, (∀ k, k < n0 → w.heap[k]? = w0.heap[k]?) → Calls Tryz.prog f args.toArray w fun e w' => ∃ v, e = .returned v ∧ PU B l v ∧ Below w.heap.size w w') :
    Meets Tryz.prog f args [keptHP n0 w0] fun x hs => PU B l x ∧ hs = [keptHP n0 w0] := by
  intro w Fs ho
  have ho' := ho
  obtain ⟨S, hS⟩ := ho
  refine (h w (hS.at_ 0 (keptHP n0 w0) rfl).1.2).mono ?_
  rintro e w' ⟨v, rfl, hp, h1, h2, h3, h4, h5⟩
  exact ⟨v, _, rfl, ⟨hp, rfl⟩, ⟨S, hS.keep h4 fun k hk => h5 k hk⟩, ⟨h1, h2, h3, h4⟩⟩
theorem numP_syntax {B : Nat} {l : List UInt8} (h : Lib.parseUintB B l = Tryz.synE) : numP B l = (0, false) := by rw [numP, h]; rfl
theorem numP_range {B : Nat} {l : List UInt8} (h : Lib.parseUintB B l = .range) : numP B l = (2 ^ B - 1, false) := by rw [numP, h]
theorem pu8_meets (hL : Laid0 w0 n0) (l : List UInt8) (hl : l.length ≤ 281474976710656) : Meets Tryz.prog 88 [strV l, .int .i64 10, .int .i64 8] [keptHP n0 w0] fun x hs => PU 8 l x ∧ hs = [keptHP n0 w0] := by
  refine meets_PU fun w hk => ?_
  rcases hp : Lib.parseUintB 8 l with u | _ | _
  · refine (Tryz.strconv_ParseUint_10_at8_ok ⟨l.toArray⟩ (by simp [ByteArray.size]; omega) u hp w).mono ?_
    rintro e w' ⟨rfl, hw⟩
    exact ⟨_, rfl, ⟨u, Lib.parseUintB_le hp, Or.inl ⟨rfl, hp⟩⟩, below_bytes w _ hw⟩
  · obtain ⟨te, pe, hv⟩ := (hL.keep hk).syn
    refine (Tryz.strconv_ParseUint_10_at8_syntax ⟨l.toArray⟩ (by simp [ByteArray.size]; omega) hp _ w hv (Or.inr ⟨te, pe, rfl⟩)).mono ?_
    rintro e w' ⟨N, rfl, _, _, hb⟩
    exact ⟨_, rfl, ⟨0, Nat.zero_le _, Or.inr ⟨_, _, rfl, by rw [hp]; simp, numP_syntax hp⟩⟩, hb⟩
  · obtain ⟨te, pe, hv⟩ := (hL.keep hk).rng
    refine (Tryz.strconv_ParseUint_10_at8_range ⟨l.toArray⟩ (by simp [ByteArray.size]; omega) hp _ w hv (Or.inr ⟨te, pe, rfl⟩)).mono ?_
    rintro e w' ⟨N, rfl, _, _, hb⟩
    exact ⟨_, rfl, ⟨255, Nat.le_refl _, Or.inr ⟨_, _, rfl, by rw [hp]; simp, numP_range hp⟩⟩, hb⟩
def fnL : List UInt8 := [80, 97, 114, 115, 101, 85, 105, 110, 116]
theorem toErr_meets (hL : Laid0 w0 n0) (l : List UInt8) (hl : l.length ≤ 281474976710656) (bits k : Int) (hk12 : k = 1 ∨ k = 2) : Meets Tryz.prog 111 [.string ⟨#[80, 97, 114, 115, 101, 85, 105, 110, 116]⟩, strV l, .int .i64 10, .int .i64 bits, .iface 231 (.int .i64 k)] [keptHP n0 w0]
    fun x hs => (∃ N : Nat, x = .iface 233 (.pointer (some ⟨N, 0, none⟩))) ∧ hs = [keptHP n0 w0] := by
  intro w Fs ho
  have ho' := ho
  obtain ⟨S, hS⟩ := ho
  have hk := (hS.at_ 0 (keptHP n0 w0) rfl).1.2
  rcases hk12 with rfl | rfl
  · obtain ⟨te, pe, hv⟩ := (hL.keep hk).rng
    refine (Tryz.strconv_toError_range _ ⟨l.toArray⟩ 10 bits _ w (by simp [ByteArray.size]; omega) hv (Or.inr ⟨te, pe, rfl⟩)).mono ?_
    rintro e w' ⟨N, rfl, _, _, h1, h2, h3, h4, h5⟩
    exact ⟨_, _, rfl, ⟨⟨N, rfl⟩, rfl⟩, ⟨S, hS.keep h4 fun k hk => h5 k hk⟩, ⟨h1, h2, h3, h4⟩⟩
  · obtain ⟨te, pe, hv⟩ := (hL.keep hk).syn
    refine (Tryz.strconv_toError_syntax _ ⟨l.toArray⟩ 10 bits _ w (by simp [ByteArray.size]; omega) hv (Or.inr ⟨te, pe, rfl⟩)).mono ?_
    rintro e w' ⟨N, rfl, _, _, h1, h2, h3, h4, h5⟩
    exact ⟨_, _, rfl, ⟨⟨N, rfl⟩, rfl⟩, ⟨S, hS.keep h4 fun k hk => h5 k hk⟩, ⟨h1, h2, h3, h4⟩⟩
theorem pu31_meets (hL : Laid0 w0 n0) (l : List UInt8) (hl : l.length ≤ 281474976710656) : Meets Tryz.prog 88 [strV l, .int .i64 10, .int .i64 31] [keptHP n0 w0] fun x hs => PU 31 l x ∧ hs = [keptHP n0 w0] := by
  have p := Lu.parse31_meets l (by omega)
  have e0 : strV l = (SV.strE (.avar 0)).val { iv := [31], av := [rowS l], pv := [keptHP n0 w0] } := strV_row l
  have bad : ∀ (n : Nat) (k : Int), n ≤ 2 ^ 31 - 1 → (k = 1 ∨ k = 2) → Lib.parseUintB 31 l ≠ .ok n → numP 31 l = (n, false) → Lu.resV (Lib.parseUintB 31 l) = .tuple #[.int .u64 n, .iface 231 (.int .i64 k)] → Meets Tryz.prog 88 [strV l, .int .i64 10, .int .i64 31] [keptHP n0 w0] fun x hs => PU 31 l x ∧ hs = [keptHP n0 w0] := by
    intro n k hn hk hne hnp hv
    rw [hv] at p
    rw [e0]
    refine Meets.of_look (C := cxErr) (cnt := { a := 1, i := 1, p := 1 }) (ρ := { iv := [31], av := [rowS l], pv := [keptHP n0 w0] }) okT okFT okM Tryz.func88 (by constructor <;> rfl) rfl rfl
      (PU 31 l) (args := [.strE (.avar 0), .int .i64 (.lit 10), .int .i64 (.var 0)]) run_perr (vc_perr Tryz.prog (fun v _ => PU 31 l v) 31 (rowS l) (keptHP n0 w0) (fun _ => LC.none)) ?_
    unfold st_perr
    rw [strD_rowS]
    refine ⟨_, p, ?_⟩
    rintro _ _ ⟨rfl, rfl⟩
    refine ⟨n, k, rfl, rfl, _, toErr_meets hL l hl 31 k hk, ?_⟩
    rintro _ _ ⟨⟨N, rfl⟩, rfl⟩
    exact ⟨⟨.iface 233 (.pointer (some ⟨N, 0, none⟩)), rfl⟩, rfl, rfl, n, hn, Or.inr ⟨_, _, rfl, hne, hnp⟩⟩
  rcases hp : Lib.parseUintB 31 l with u | _ | _
  · have hu := Lib.parseUintB_le hp
    rw [hp] at p
    rw [e0]
    refine Meets.of_look (C := cxOk) (cnt := { a := 1, i := 1, p := 1 }) (ρ := { iv := [31], av := [rowS l], pv := [keptHP n0 w0] }) okT okFT okM Tryz.func88 (by constructor <;> rfl) rfl rfl
      (PU 31 l) (args := [.strE (.avar 0), .int .i64 (.lit 10), .int .i64 (.var 0)]) run_pok (vc_pok Tryz.prog (fun v _ => PU 31 l v) 31 (rowS l) (keptHP n0 w0) (fun _ => LC.none)) ?_
    unfold st_pok
    rw [strD_rowS]
    refine ⟨_, p, ?_⟩
    rintro _ _ ⟨rfl, rfl⟩
    exact ⟨u, rfl, rfl, u, hu, Or.inl ⟨rfl, hp⟩⟩
  · exact bad 0 2 (Nat.zero_le _) (Or.inr rfl) (by rw [hp]; simp) (numP_syntax hp) (by rw [hp]; rfl)
  · exact bad 2147483647 1 (Nat.le_refl _) (Or.inl rfl) (by rw [hp]; simp) (numP_range hp) (by rw [hp]; rfl)
def numPV (x : Nat × Bool) : Value := .tuple #[.int .i64 x.1, .bool x.2]
theorem num_meets (hL : Laid0 w0 n0) (l : List UInt8) (B : Nat) (hB : B = 8 ∨ B = 31) (hl : l.length ≤ 281474976710656) : Meets Tryz.prog 57 [strV l, .int .i64 B] [keptHP n0 w0] fun x hs => x = numPV (numP B l) ∧ hs = [keptHP n0 w0] := by
  have hM : 2 ^ B - 1 ≤ 2147483647 := by rcases hB with rfl | rfl <;> decide
  have e0 : strV l = (SV.strE (.avar 0)).val { iv := [(B : Int)], av := [rowS l], pv := [keptHP n0 w0] } := strV_row l
  rw [e0]
  refine Meets.of_look (C := cxN) (cnt := { a := 1, i := 1, p := 1 }) (ρ := { iv := [(B : Int)], av := [rowS l], pv := [keptHP n0 w0] }) okT okFT okM Tryz.func57 (by constructor <;> rfl) rfl rfl
    (fun v => v = numPV (numP B l)) (args := [.strE (.avar 0), .int .i64 (.var 0)]) run_num (vc_num Tryz.prog (fun v _ => v = numPV (numP B l)) B (rowS l) (keptHP n0 w0) (fun _ => LC.none)) ?_
  unfold st_num
  rw [strD_rowS]
  refine ⟨fun x hs => PU B l x ∧ hs = [keptHP n0 w0], by rcases hB with rfl | rfl; exact pu8_meets hL l hl; exact pu31_meets hL l hl, ?_⟩
  rintro x _ ⟨⟨n, hn, h⟩, rfl⟩
  rcases h with ⟨rfl, hp⟩ | ⟨t, y, rfl, hne, hnp⟩
  · refine ⟨V1.nil, n, false, rfl, rfl, by omega, fun _ => ⟨by omega, fun _ => ⟨fun _ => ?_, fun h => absurd Bool.false_ne_true h⟩⟩⟩
    refine ⟨_, fmt_meets hL n (by omega), ?_⟩
    rintro _ _ ⟨rfl, rfl⟩
    refine ⟨rowS (Lib.decDigits n), strV_row _, rfl, ?_⟩
    show _ = _
    rw [strD_rowS, numP, hp]
    have : (Lib.decDigits n == l) = (l == Lib.decDigits n) := by
      rw [Bool.eq_iff_iff, beq_iff_eq, beq_iff_eq]
      exact ⟨Eq.symm, Eq.symm⟩
    rw [this]
    rfl
  · refine ⟨⟨.iface t y, rfl⟩, n, true, rfl, rfl, by omega, fun _ => ⟨by omega, fun _ => ⟨fun h => absurd rfl h, fun _ => ?_⟩⟩⟩
    show _ = _
    rw [hnp]
    rfl
end Go.RX.Lf
