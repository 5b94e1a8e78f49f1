/- RingMemory: what the functions that it reaches leave to be shown; printed by a program of ours (wip/tools). -/
import Derived.Test.YtphemenngjkfbaaCtx
import Derived.Test.YtphemenngjkfbaaRmAnn
import Derived.Test.YtphemenngjkfbaaRxZe
namespace Go.RX.Rm
open Go.RX Go.Proofs
noncomputable def cx : Ctx := { T := TT, FT := FT, loops := loops, calls := calls }
set_option maxRecDepth 100000
def fm_index (md : Bool) : F :=
.vc (Go.RX.BE.le (Go.RX.E.lit 0) (Go.RX.E.var 0)) <|
 .loop 0 ({ b := 0, v := 0, i := 1, a := 0, bo := 0, p := 0, r := 0 }) ([Go.RX.Eq2.e (Go.RX.E.var 2) (Go.RX.E.lit 0)]) <|
.fork (Go.RX.BE.lt (Go.RX.E.var 2) (Go.RX.E.var 0)) (.vc (Go.RX.BE.le (Go.RX.E.lit 0) (Go.RX.E.var 2)) <|
 .fork (Go.RX.BE.eq (Go.RX.E.var 1) (Go.RX.E.sel (Go.RX.E.avar 0) (Go.RX.E.var 2))) (.ret (Go.RX.SV.int (Go.IntKind.i64) (Go.RX.E.var 2)) ([Go.RX.Ck.sli md 0 53 1 (Go.RX.E.var 0) [{ ck := Go.RX.CK.int (Go.IntKind.u16), w := 1, a := Go.RX.E.avar 0 }]])) <|
.vc (Go.RX.BE.le (Go.RX.E.lit (-9223372036854775808)) (Go.RX.E.bin (Go.RX.IOp.add) (Go.IntKind.i64) (Go.RX.E.var 2) (Go.RX.E.lit 1))) <|
 .vc (Go.RX.BE.le (Go.RX.E.bin (Go.RX.IOp.add) (Go.IntKind.i64) (Go.RX.E.var 2) (Go.RX.E.lit 1)) (Go.RX.E.lit 9223372036854775807)) <|
 .back 0 ({ b := 0, v := 1, i := 2, a := 1, bo := 0, p := 0, r := 0 }) ({ b := 0, v := 0, i := 1, a := 0, bo := 0, p := 0, r := 0 }) ([Go.RX.Eq2.e (Go.RX.E.var 2) (Go.RX.E.bin (Go.RX.IOp.add) (Go.IntKind.i64) (Go.RX.E.var 2) (Go.RX.E.lit 1))])) <|
.ret (Go.RX.SV.int (Go.IntKind.i64) (Go.RX.E.lit (-1))) ([Go.RX.Ck.sli md 0 53 1 (Go.RX.E.var 0) [{ ck := Go.RX.CK.int (Go.IntKind.u16), w := 1, a := Go.RX.E.avar 0 }]])
def st_index (md : Bool) (P : Program) (Post : Value → List HP → Prop) (x0 : Int) (x1 : Int) (A0 : Nat → Int) (v0 : V1) : Prop :=
 Need (0 ≤ x0) (
∃ (I0x0 : Ext → Prop) (m0x0 : Ext → Nat), (∃ x2 : Int, x2 = 0 ∧ I0x0 ⟨[], [], [x2], [], [], [], []⟩) ∧
∀ x2 : Int, I0x0 ⟨[], [], [x2], [], [], [], []⟩ →
  Fork (x2 < x0) (
    Need (0 ≤ x2) (
    Fork (x1 = (A0 (Int.toNat x2))) (
      Post (.int .i64 x2) [sliHP md 53 1 v0.v (Int.toNat x0) (tabL (Int.toNat x0) [colI .u16 1 A0])]) (
      Need ((-9223372036854775808) ≤ (x2 + 1)) (
      Need ((x2 + 1) ≤ 9223372036854775807) (
      ∃ x2' : Int, x2' = (x2 + 1) ∧ I0x0 ⟨[], [], [x2'], [], [], [], []⟩ ∧ m0x0 ⟨[], [], [x2'], [], [], [], []⟩ < m0x0 ⟨[], [], [x2], [], [], [], []⟩))))) (
    Post (.int .i64 (-1)) [sliHP md 53 1 v0.v (Int.toNat x0) (tabL (Int.toNat x0) [colI .u16 1 A0])]))
theorem vc_index (md : Bool) (P : Program) (Post : Value → List HP → Prop) (x0 : Int) (x1 : Int) (A0 : Nat → Int) (v0 : V1) (L : Nat → LC) : VC P Post (fm_index md) { iv := [x0, x1], av := [A0], bo := [], bv := [], vv := [v0] } L = st_index md P Post x0 x1 A0 v0 := by kernel_rfl
theorem run_index (md : Bool) : runF cx 104 ([Go.RX.SV.vv 0, Go.RX.SV.int (Go.IntKind.u16) (Go.RX.E.var 1)]) ([Go.RX.Ck.sli md 0 53 1 (Go.RX.E.var 0) [{ ck := Go.RX.CK.int (Go.IntKind.u16), w := 1, a := Go.RX.E.avar 0 }]]) ({ b := 0, v := 1, i := 2, a := 1, bo := 0, p := 0, r := 0 }) Try.f104 = fm_index md := by cases md <;> kernel_rfl
def fm_note : F :=
.call 104 ([Go.RX.SV.vv 0, Go.RX.SV.int (Go.IntKind.u16) (Go.RX.E.var 0)]) ([Go.RX.Ck.sli true 0 53 1 (Go.RX.E.var 2) [{ ck := Go.RX.CK.int (Go.IntKind.u16), w := 1, a := Go.RX.E.avar 0 }]]) ({ b := 0, v := 0, i := 1, a := 0, bo := 0, p := 0, r := 0 }) (Go.RX.SV.int (Go.IntKind.i64) (Go.RX.E.var 3)) ([Go.RX.Ck.sli true 0 53 1 (Go.RX.E.var 2) [{ ck := Go.RX.CK.int (Go.IntKind.u16), w := 1, a := Go.RX.E.avar 0 }]]) <|
.fork (Go.RX.BE.le (Go.RX.E.lit 0) (Go.RX.E.var 3)) (.ret (Go.RX.SV.tup []) ([Go.RX.Ck.row 0 true [Go.RX.SV.vv 0, Go.RX.SV.int (Go.IntKind.i64) (Go.RX.E.var 1)], Go.RX.Ck.sli true 0 53 1 (Go.RX.E.var 2) [{ ck := Go.RX.CK.int (Go.IntKind.u16), w := 1, a := Go.RX.E.avar 0 }]])) <|
.allB <| .vc (Go.RX.BE.le (Go.RX.E.lit 0) (Go.RX.E.var 2)) <|
 .vc (Go.RX.BE.le (Go.RX.E.bin (Go.RX.IOp.mul) (Go.IntKind.i64) (Go.RX.E.bin (Go.RX.IOp.add) (Go.IntKind.i64) (Go.RX.E.var 2) (Go.RX.E.lit 1)) (Go.RX.E.lit 2)) (Go.RX.E.lit 140737488355328)) <|
 .allV <| .vc (Go.RX.BE.le (Go.RX.E.lit 0) (Go.RX.E.bin (Go.RX.IOp.add) (Go.IntKind.i64) (Go.RX.E.var 2) (Go.RX.E.lit 1))) <|
 .vc (Go.RX.BE.le (Go.RX.E.lit (-9223372036854775808)) (Go.RX.E.bin (Go.RX.IOp.sub) (Go.IntKind.i64) (Go.RX.E.bin (Go.RX.IOp.add) (Go.IntKind.i64) (Go.RX.E.var 2) (Go.RX.E.lit 1)) (Go.RX.E.var 1))) <|
 .vc (Go.RX.BE.le (Go.RX.E.bin (Go.RX.IOp.sub) (Go.IntKind.i64) (Go.RX.E.bin (Go.RX.IOp.add) (Go.IntKind.i64) (Go.RX.E.var 2) (Go.RX.E.lit 1)) (Go.RX.E.var 1)) (Go.RX.E.lit 9223372036854775807)) <|
 .fork (Go.RX.BE.lt (Go.RX.E.lit 0) (Go.RX.E.bin (Go.RX.IOp.sub) (Go.IntKind.i64) (Go.RX.E.bin (Go.RX.IOp.add) (Go.IntKind.i64) (Go.RX.E.var 2) (Go.RX.E.lit 1)) (Go.RX.E.var 1))) (.vc (Go.RX.BE.le (Go.RX.E.lit 0) (Go.RX.E.bin (Go.RX.IOp.sub) (Go.IntKind.i64) (Go.RX.E.bin (Go.RX.IOp.add) (Go.IntKind.i64) (Go.RX.E.var 2) (Go.RX.E.lit 1)) (Go.RX.E.var 1))) <|
 .vc (Go.RX.BE.le (Go.RX.E.bin (Go.RX.IOp.sub) (Go.IntKind.i64) (Go.RX.E.bin (Go.RX.IOp.add) (Go.IntKind.i64) (Go.RX.E.var 2) (Go.RX.E.lit 1)) (Go.RX.E.var 1)) (Go.RX.E.bin (Go.RX.IOp.add) (Go.IntKind.i64) (Go.RX.E.var 2) (Go.RX.E.lit 1))) <|
 .fork (Go.RX.BE.eq (Go.RX.E.lit 0) (Go.RX.E.bin (Go.RX.IOp.sub) (Go.IntKind.i64) (Go.RX.E.bin (Go.RX.IOp.add) (Go.IntKind.i64) (Go.RX.E.var 2) (Go.RX.E.lit 1)) (Go.RX.E.var 1))) (.ret (Go.RX.SV.tup []) ([Go.RX.Ck.row 0 true [Go.RX.SV.vv 1, Go.RX.SV.int (Go.IntKind.i64) (Go.RX.E.var 1)], Go.RX.Ck.sli true 1 53 1 (Go.RX.E.bin (Go.RX.IOp.add) (Go.IntKind.i64) (Go.RX.E.var 2) (Go.RX.E.lit 1)) [{ ck := Go.RX.CK.int (Go.IntKind.u16), w := 1, a := Go.RX.E.upd (Go.RX.E.avar 0) (Go.RX.E.var 2) (Go.RX.E.var 0) }], Go.RX.Ck.row 1 true [Go.RX.SV.int (Go.IntKind.u16) (Go.RX.E.var 0)]])) <|
.vc (Go.RX.BE.le (Go.RX.E.lit 0) (Go.RX.E.bin (Go.RX.IOp.sub) (Go.IntKind.i64) (Go.RX.E.bin (Go.RX.IOp.add) (Go.IntKind.i64) (Go.RX.E.var 2) (Go.RX.E.lit 1)) (Go.RX.E.bin (Go.RX.IOp.sub) (Go.IntKind.i64) (Go.RX.E.bin (Go.RX.IOp.add) (Go.IntKind.i64) (Go.RX.E.var 2) (Go.RX.E.lit 1)) (Go.RX.E.var 1)))) <|
 .vc (Go.RX.BE.le (Go.RX.E.lit 0) (Go.RX.E.bin (Go.RX.IOp.sub) (Go.IntKind.i64) (Go.RX.E.bin (Go.RX.IOp.add) (Go.IntKind.i64) (Go.RX.E.var 2) (Go.RX.E.lit 1)) (Go.RX.E.bin (Go.RX.IOp.sub) (Go.IntKind.i64) (Go.RX.E.bin (Go.RX.IOp.add) (Go.IntKind.i64) (Go.RX.E.var 2) (Go.RX.E.lit 1)) (Go.RX.E.var 1)))) <|
 .vc (Go.RX.BE.le (Go.RX.E.bin (Go.RX.IOp.sub) (Go.IntKind.i64) (Go.RX.E.bin (Go.RX.IOp.add) (Go.IntKind.i64) (Go.RX.E.var 2) (Go.RX.E.lit 1)) (Go.RX.E.bin (Go.RX.IOp.sub) (Go.IntKind.i64) (Go.RX.E.bin (Go.RX.IOp.add) (Go.IntKind.i64) (Go.RX.E.var 2) (Go.RX.E.lit 1)) (Go.RX.E.var 1))) (Go.RX.E.bin (Go.RX.IOp.add) (Go.IntKind.i64) (Go.RX.E.var 2) (Go.RX.E.lit 1))) <|
 .vc (Go.RX.BE.le (Go.RX.E.lit 0) (Go.RX.E.bin (Go.RX.IOp.sub) (Go.IntKind.i64) (Go.RX.E.bin (Go.RX.IOp.add) (Go.IntKind.i64) (Go.RX.E.var 2) (Go.RX.E.lit 1)) (Go.RX.E.bin (Go.RX.IOp.sub) (Go.IntKind.i64) (Go.RX.E.bin (Go.RX.IOp.add) (Go.IntKind.i64) (Go.RX.E.var 2) (Go.RX.E.lit 1)) (Go.RX.E.bin (Go.RX.IOp.sub) (Go.IntKind.i64) (Go.RX.E.bin (Go.RX.IOp.add) (Go.IntKind.i64) (Go.RX.E.var 2) (Go.RX.E.lit 1)) (Go.RX.E.var 1))))) <|
 .ret (Go.RX.SV.tup []) ([Go.RX.Ck.row 0 true [Go.RX.SV.vsub 1 [{ lo := Go.RX.E.lit 0, hi := Go.RX.E.bin (Go.RX.IOp.sub) (Go.IntKind.i64) (Go.RX.E.bin (Go.RX.IOp.add) (Go.IntKind.i64) (Go.RX.E.var 2) (Go.RX.E.lit 1)) (Go.RX.E.bin (Go.RX.IOp.sub) (Go.IntKind.i64) (Go.RX.E.bin (Go.RX.IOp.add) (Go.IntKind.i64) (Go.RX.E.var 2) (Go.RX.E.lit 1)) (Go.RX.E.var 1)), mx := none }] 1, Go.RX.SV.int (Go.IntKind.i64) (Go.RX.E.var 1)], Go.RX.Ck.sli true 1 53 1 (Go.RX.E.bin (Go.RX.IOp.add) (Go.IntKind.i64) (Go.RX.E.var 2) (Go.RX.E.lit 1)) [{ ck := Go.RX.CK.int (Go.IntKind.u16), w := 1, a := Go.RX.E.spl (Go.RX.E.spl (Go.RX.E.upd (Go.RX.E.avar 0) (Go.RX.E.var 2) (Go.RX.E.var 0)) (Go.RX.E.lit 0) (Go.RX.E.bin (Go.RX.IOp.sub) (Go.IntKind.i64) (Go.RX.E.bin (Go.RX.IOp.add) (Go.IntKind.i64) (Go.RX.E.var 2) (Go.RX.E.lit 1)) (Go.RX.E.bin (Go.RX.IOp.sub) (Go.IntKind.i64) (Go.RX.E.bin (Go.RX.IOp.add) (Go.IntKind.i64) (Go.RX.E.var 2) (Go.RX.E.lit 1)) (Go.RX.E.var 1))) (Go.RX.E.shift (Go.RX.E.upd (Go.RX.E.avar 0) (Go.RX.E.var 2) (Go.RX.E.var 0)) (Go.RX.E.bin (Go.RX.IOp.sub) (Go.IntKind.i64) (Go.RX.E.bin (Go.RX.IOp.add) (Go.IntKind.i64) (Go.RX.E.var 2) (Go.RX.E.lit 1)) (Go.RX.E.var 1)))) (Go.RX.E.bin (Go.RX.IOp.sub) (Go.IntKind.i64) (Go.RX.E.bin (Go.RX.IOp.add) (Go.IntKind.i64) (Go.RX.E.var 2) (Go.RX.E.lit 1)) (Go.RX.E.bin (Go.RX.IOp.sub) (Go.IntKind.i64) (Go.RX.E.bin (Go.RX.IOp.add) (Go.IntKind.i64) (Go.RX.E.var 2) (Go.RX.E.lit 1)) (Go.RX.E.var 1))) (Go.RX.E.bin (Go.RX.IOp.sub) (Go.IntKind.i64) (Go.RX.E.bin (Go.RX.IOp.add) (Go.IntKind.i64) (Go.RX.E.var 2) (Go.RX.E.lit 1)) (Go.RX.E.bin (Go.RX.IOp.sub) (Go.IntKind.i64) (Go.RX.E.bin (Go.RX.IOp.add) (Go.IntKind.i64) (Go.RX.E.var 2) (Go.RX.E.lit 1)) (Go.RX.E.bin (Go.RX.IOp.sub) (Go.IntKind.i64) (Go.RX.E.bin (Go.RX.IOp.add) (Go.IntKind.i64) (Go.RX.E.var 2) (Go.RX.E.lit 1)) (Go.RX.E.var 1)))) (Go.RX.E.lit 0) }], Go.RX.Ck.row 1 true [Go.RX.SV.int (Go.IntKind.u16) (Go.RX.E.var 0)]])) <|
.ret (Go.RX.SV.tup []) ([Go.RX.Ck.row 0 true [Go.RX.SV.vv 1, Go.RX.SV.int (Go.IntKind.i64) (Go.RX.E.var 1)], Go.RX.Ck.sli true 1 53 1 (Go.RX.E.bin (Go.RX.IOp.add) (Go.IntKind.i64) (Go.RX.E.var 2) (Go.RX.E.lit 1)) [{ ck := Go.RX.CK.int (Go.IntKind.u16), w := 1, a := Go.RX.E.upd (Go.RX.E.avar 0) (Go.RX.E.var 2) (Go.RX.E.var 0) }], Go.RX.Ck.row 1 true [Go.RX.SV.int (Go.IntKind.u16) (Go.RX.E.var 0)]])
def st_note (P : Program) (Post : Value → List HP → Prop) (x0 : Int) (x1 : Int) (x2 : Int) (A0 : Nat → Int) (v0 : V1) (b0 : Nat) : Prop :=
∃ post, Meets P 104 [v0.v, .int .u16 x0] [sliHP true 53 1 v0.v (Int.toNat x2) (tabL (Int.toNat x2) [colI .u16 1 A0])] post ∧
∀ x hs, post x hs → ∃ x3 : Int, x = .int .i64 x3 ∧ hs = [sliHP true 53 1 v0.v (Int.toNat x2) (tabL (Int.toNat x2) [colI .u16 1 A0])] ∧
 Fork (0 ≤ x3) (
  Post (.tuple #[]) [rowHP b0 true ([v0.v, .int .i64 x1]), sliHP true 53 1 v0.v (Int.toNat x2) (tabL (Int.toNat x2) [colI .u16 1 A0])]) (
  ∀ b1 : Nat, Need (0 ≤ x2) (
  Need (((x2 + 1) * 2) ≤ 140737488355328) (
  ∀ v1 : V1, Need (0 ≤ (x2 + 1)) (
  Need ((-9223372036854775808) ≤ ((x2 + 1) - x1)) (
  Need (((x2 + 1) - x1) ≤ 9223372036854775807) (
  Fork (0 < ((x2 + 1) - x1)) (
    Need (0 ≤ ((x2 + 1) - x1)) (
    Need (((x2 + 1) - x1) ≤ (x2 + 1)) (
    Fork (0 = ((x2 + 1) - x1)) (
      Post (.tuple #[]) [rowHP b0 true ([v1.v, .int .i64 x1]), sliHP true 53 1 v1.v (Int.toNat (x2 + 1)) (tabL (Int.toNat (x2 + 1)) [colI .u16 1 (updF A0 (Int.toNat x2) x0)]), rowHP b1 true ([.int .u16 x0])]) (
      Need (0 ≤ ((x2 + 1) - ((x2 + 1) - x1))) (
      Need (0 ≤ ((x2 + 1) - ((x2 + 1) - x1))) (
      Need (((x2 + 1) - ((x2 + 1) - x1)) ≤ (x2 + 1)) (
      Need (0 ≤ ((x2 + 1) - ((x2 + 1) - ((x2 + 1) - x1)))) (
      Post (.tuple #[]) [rowHP b0 true ([(subSlice 1 v1.v 0 (Int.toNat ((x2 + 1) - ((x2 + 1) - x1))) none), .int .i64 x1]), sliHP true 53 1 v1.v (Int.toNat (x2 + 1)) (tabL (Int.toNat (x2 + 1)) [colI .u16 1 (splF (splF (updF A0 (Int.toNat x2) x0) 0 (Int.toNat ((x2 + 1) - ((x2 + 1) - x1))) (shiftF (updF A0 (Int.toNat x2) x0) (Int.toNat ((x2 + 1) - x1)))) (Int.toNat ((x2 + 1) - ((x2 + 1) - x1))) (Int.toNat ((x2 + 1) - ((x2 + 1) - ((x2 + 1) - x1)))) (fun _ => 0))]), rowHP b1 true ([.int .u16 x0])])))))))) (
    Post (.tuple #[]) [rowHP b0 true ([v1.v, .int .i64 x1]), sliHP true 53 1 v1.v (Int.toNat (x2 + 1)) (tabL (Int.toNat (x2 + 1)) [colI .u16 1 (updF A0 (Int.toNat x2) x0)]), rowHP b1 true ([.int .u16 x0])])))))))
theorem vc_note (P : Program) (Post : Value → List HP → Prop) (x0 : Int) (x1 : Int) (x2 : Int) (A0 : Nat → Int) (v0 : V1) (b0 : Nat) (L : Nat → LC) : VC P Post fm_note { iv := [x0, x1, x2], av := [A0], bo := [], bv := [b0], vv := [v0] } L = st_note P Post x0 x1 x2 A0 v0 b0 := by kernel_rfl
theorem run_note : runF cx 28 ([Go.RX.SV.ptr 0 0, Go.RX.SV.int (Go.IntKind.u16) (Go.RX.E.var 0)]) ([Go.RX.Ck.row 0 true [Go.RX.SV.vv 0, Go.RX.SV.int (Go.IntKind.i64) (Go.RX.E.var 1)], Go.RX.Ck.sli true 0 53 1 (Go.RX.E.var 2) [{ ck := Go.RX.CK.int (Go.IntKind.u16), w := 1, a := Go.RX.E.avar 0 }]]) ({ b := 1, v := 1, i := 3, a := 1, bo := 0, p := 0, r := 0 }) Try.f28 = fm_note := by kernel_rfl
def fm_has : F :=
.call 104 ([Go.RX.SV.vv 0, Go.RX.SV.int (Go.IntKind.u16) (Go.RX.E.var 0)]) ([Go.RX.Ck.sli true 0 53 1 (Go.RX.E.var 2) [{ ck := Go.RX.CK.int (Go.IntKind.u16), w := 1, a := Go.RX.E.avar 0 }]]) ({ b := 0, v := 0, i := 1, a := 0, bo := 0, p := 0, r := 0 }) (Go.RX.SV.int (Go.IntKind.i64) (Go.RX.E.var 3)) ([Go.RX.Ck.sli true 0 53 1 (Go.RX.E.var 2) [{ ck := Go.RX.CK.int (Go.IntKind.u16), w := 1, a := Go.RX.E.avar 0 }]]) <|
.ret (Go.RX.SV.bool (Go.RX.BE.le (Go.RX.E.lit 0) (Go.RX.E.var 3))) ([Go.RX.Ck.row 0 true [Go.RX.SV.vv 0, Go.RX.SV.int (Go.IntKind.i64) (Go.RX.E.var 1)], Go.RX.Ck.sli true 0 53 1 (Go.RX.E.var 2) [{ ck := Go.RX.CK.int (Go.IntKind.u16), w := 1, a := Go.RX.E.avar 0 }]])
def st_has (P : Program) (Post : Value → List HP → Prop) (x0 : Int) (x1 : Int) (x2 : Int) (A0 : Nat → Int) (v0 : V1) (b0 : Nat) : Prop :=
∃ post, Meets P 104 [v0.v, .int .u16 x0] [sliHP true 53 1 v0.v (Int.toNat x2) (tabL (Int.toNat x2) [colI .u16 1 A0])] post ∧
∀ x hs, post x hs → ∃ x3 : Int, x = .int .i64 x3 ∧ hs = [sliHP true 53 1 v0.v (Int.toNat x2) (tabL (Int.toNat x2) [colI .u16 1 A0])] ∧
 Post (.bool (decide (0 ≤ x3))) [rowHP b0 true ([v0.v, .int .i64 x1]), sliHP true 53 1 v0.v (Int.toNat x2) (tabL (Int.toNat x2) [colI .u16 1 A0])]
theorem vc_has (P : Program) (Post : Value → List HP → Prop) (x0 : Int) (x1 : Int) (x2 : Int) (A0 : Nat → Int) (v0 : V1) (b0 : Nat) (L : Nat → LC) : VC P Post fm_has { iv := [x0, x1, x2], av := [A0], bo := [], bv := [b0], vv := [v0] } L = st_has P Post x0 x1 x2 A0 v0 b0 := by kernel_rfl
theorem run_has : runF cx 30 ([Go.RX.SV.ptr 0 0, Go.RX.SV.int (Go.IntKind.u16) (Go.RX.E.var 0)]) ([Go.RX.Ck.row 0 true [Go.RX.SV.vv 0, Go.RX.SV.int (Go.IntKind.i64) (Go.RX.E.var 1)], Go.RX.Ck.sli true 0 53 1 (Go.RX.E.var 2) [{ ck := Go.RX.CK.int (Go.IntKind.u16), w := 1, a := Go.RX.E.avar 0 }]]) ({ b := 1, v := 1, i := 3, a := 1, bo := 0, p := 0, r := 0 }) Try.f30 = fm_has := by kernel_rfl
def fm_rnote : F :=
.loop 0 ({ b := 0, v := 0, i := 1, a := 0, bo := 0, p := 0, r := 0 }) ([Go.RX.Eq2.e (Go.RX.E.var 3) (Go.RX.E.lit 0)]) <|
.vc (Go.RX.BE.le (Go.RX.E.lit 0) (Go.RX.E.var 2)) <|
 .fork (Go.RX.BE.lt (Go.RX.E.var 3) (Go.RX.E.var 2)) (.vc (Go.RX.BE.le (Go.RX.E.lit 0) (Go.RX.E.var 3)) <|
 .fork (Go.RX.BE.eq (Go.RX.E.sel (Go.RX.E.avar 0) (Go.RX.E.var 3)) (Go.RX.E.var 0)) (.ret (Go.RX.SV.vv 0) ([Go.RX.Ck.sli false 0 53 1 (Go.RX.E.var 2) [{ ck := Go.RX.CK.int (Go.IntKind.u16), w := 1, a := Go.RX.E.avar 0 }]])) <|
.vc (Go.RX.BE.le (Go.RX.E.lit (-9223372036854775808)) (Go.RX.E.bin (Go.RX.IOp.add) (Go.IntKind.i64) (Go.RX.E.var 3) (Go.RX.E.lit 1))) <|
 .vc (Go.RX.BE.le (Go.RX.E.bin (Go.RX.IOp.add) (Go.IntKind.i64) (Go.RX.E.var 3) (Go.RX.E.lit 1)) (Go.RX.E.lit 9223372036854775807)) <|
 .back 0 ({ b := 0, v := 1, i := 3, a := 1, bo := 0, p := 0, r := 0 }) ({ b := 0, v := 0, i := 1, a := 0, bo := 0, p := 0, r := 0 }) ([Go.RX.Eq2.e (Go.RX.E.var 3) (Go.RX.E.bin (Go.RX.IOp.add) (Go.IntKind.i64) (Go.RX.E.var 3) (Go.RX.E.lit 1))])) <|
.allV <| .vc (Go.RX.BE.le (Go.RX.E.bin (Go.RX.IOp.mul) (Go.IntKind.i64) (Go.RX.E.var 2) (Go.RX.E.lit 2)) (Go.RX.E.lit 140737488355328)) <|
 .allV <| .allB <| .vc (Go.RX.BE.le (Go.RX.E.bin (Go.RX.IOp.mul) (Go.IntKind.i64) (Go.RX.E.bin (Go.RX.IOp.add) (Go.IntKind.i64) (Go.RX.E.var 2) (Go.RX.E.lit 1)) (Go.RX.E.lit 2)) (Go.RX.E.lit 140737488355328)) <|
 .allV <| .vc (Go.RX.BE.le (Go.RX.E.lit 0) (Go.RX.E.bin (Go.RX.IOp.add) (Go.IntKind.i64) (Go.RX.E.var 2) (Go.RX.E.lit 1))) <|
 .allV <| .loop 0 ({ b := 0, v := 1, i := 1, a := 1, bo := 0, p := 0, r := 0 }) ([Go.RX.Eq2.v 5 4, Go.RX.Eq2.v 5 4, Go.RX.Eq2.e (Go.RX.E.var 4) (Go.RX.E.bin (Go.RX.IOp.add) (Go.IntKind.i64) (Go.RX.E.var 2) (Go.RX.E.lit 1)), Go.RX.Eq2.a (Go.RX.E.var 4) (Go.RX.E.avar 1) (Go.RX.E.upd (Go.RX.E.avar 0) (Go.RX.E.var 2) (Go.RX.E.var 0))]) <|
.vc (Go.RX.BE.le (Go.RX.E.lit 0) (Go.RX.E.var 4)) <|
 .vc (Go.RX.BE.or (Go.RX.BE.not (Go.RX.BE.lt (Go.RX.E.lit 0) (Go.RX.E.var 4))) (Go.RX.BE.le (Go.RX.E.lit 0) (Go.RX.E.var 4))) <|
 .fork (Go.RX.BE.and (Go.RX.BE.lt (Go.RX.E.lit 0) (Go.RX.E.var 4)) (Go.RX.BE.lt (Go.RX.E.var 1) (Go.RX.E.var 4))) (.vc (Go.RX.BE.le (Go.RX.E.lit 1) (Go.RX.E.var 4)) <|
 .vc (Go.RX.BE.le (Go.RX.E.lit 1) (Go.RX.E.var 4)) <|
 .vc (Go.RX.BE.le (Go.RX.E.lit 0) (Go.RX.E.bin (Go.RX.IOp.sub) (Go.IntKind.i64) (Go.RX.E.var 4) (Go.RX.E.lit 1))) <|
 .allV <| .back 0 ({ b := 1, v := 5, i := 4, a := 1, bo := 0, p := 0, r := 0 }) ({ b := 0, v := 1, i := 1, a := 1, bo := 0, p := 0, r := 0 }) ([Go.RX.Eq2.v 5 6, Go.RX.Eq2.v 5 6, Go.RX.Eq2.e (Go.RX.E.var 4) (Go.RX.E.bin (Go.RX.IOp.sub) (Go.IntKind.i64) (Go.RX.E.var 4) (Go.RX.E.lit 1)), Go.RX.Eq2.a (Go.RX.E.var 4) (Go.RX.E.avar 1) (Go.RX.E.shift (Go.RX.E.avar 1) (Go.RX.E.lit 1))])) <|
.ret (Go.RX.SV.vv 5) ([Go.RX.Ck.sli false 0 53 1 (Go.RX.E.var 2) [{ ck := Go.RX.CK.int (Go.IntKind.u16), w := 1, a := Go.RX.E.avar 0 }], Go.RX.Ck.sli false 5 53 1 (Go.RX.E.var 4) [{ ck := Go.RX.CK.int (Go.IntKind.u16), w := 1, a := Go.RX.E.avar 1 }], Go.RX.Ck.row 0 true [Go.RX.SV.int (Go.IntKind.u16) (Go.RX.E.var 0)]])
def st_rnote (P : Program) (Post : Value → List HP → Prop) (x0 : Int) (x1 : Int) (x2 : Int) (A0 : Nat → Int) (v0 : V1) : Prop :=
∃ (I0x0 : Ext → Prop) (m0x0 : Ext → Nat), (∃ x3 : Int, x3 = 0 ∧ I0x0 ⟨[], [], [x3], [], [], [], []⟩) ∧
∀ x3 : Int, I0x0 ⟨[], [], [x3], [], [], [], []⟩ →
  Need (0 ≤ x2) (
  Fork (x3 < x2) (
    Need (0 ≤ x3) (
    Fork ((A0 (Int.toNat x3)) = x0) (
      Post (v0.v) [sliHP false 53 1 v0.v (Int.toNat x2) (tabL (Int.toNat x2) [colI .u16 1 A0])]) (
      Need ((-9223372036854775808) ≤ (x3 + 1)) (
      Need ((x3 + 1) ≤ 9223372036854775807) (
      ∃ x3' : Int, x3' = (x3 + 1) ∧ I0x0 ⟨[], [], [x3'], [], [], [], []⟩ ∧ m0x0 ⟨[], [], [x3'], [], [], [], []⟩ < m0x0 ⟨[], [], [x3], [], [], [], []⟩))))) (
    ∀ v1 : V1, Need ((x2 * 2) ≤ 140737488355328) (
    ∀ v2 : V1, ∀ b0 : Nat, Need (((x2 + 1) * 2) ≤ 140737488355328) (
    ∀ v3 : V1, Need (0 ≤ (x2 + 1)) (
    ∀ v4 : V1, ∃ (I0x4 : Ext → Prop) (m0x4 : Ext → Nat), (∃ v5 : V1, ∃ x4 : Int, ∃ A1 : (Nat → Int), v5 = v4 ∧ v5 = v4 ∧ x4 = (x2 + 1) ∧ (∀ j, j < (Int.toNat x4) → A1 j = (updF A0 (Int.toNat x2) x0) j) ∧ I0x4 ⟨[], [v5], [x4], [A1], [], [], []⟩) ∧
    ∀ v5 : V1, ∀ x4 : Int, ∀ A1 : (Nat → Int), I0x4 ⟨[], [v5], [x4], [A1], [], [], []⟩ →
      Need (0 ≤ x4) (
      Need ((¬ (0 < x4)) ∨ (0 ≤ x4)) (
      Fork ((0 < x4) ∧ (x1 < x4)) (
        Need (1 ≤ x4) (
        Need (1 ≤ x4) (
        Need (0 ≤ (x4 - 1)) (
        ∀ v6 : V1, ∃ v5' : V1, ∃ x4' : Int, ∃ A1' : (Nat → Int), v5' = v6 ∧ v5' = v6 ∧ x4' = (x4 - 1) ∧ (∀ j, j < (Int.toNat x4') → A1' j = (shiftF A1 1) j) ∧ I0x4 ⟨[], [v5'], [x4'], [A1'], [], [], []⟩ ∧ m0x4 ⟨[], [v5'], [x4'], [A1'], [], [], []⟩ < m0x4 ⟨[], [v5], [x4], [A1], [], [], []⟩)))) (
        Post (v5.v) [sliHP false 53 1 v0.v (Int.toNat x2) (tabL (Int.toNat x2) [colI .u16 1 A0]), sliHP false 53 1 v5.v (Int.toNat x4) (tabL (Int.toNat x4) [colI .u16 1 A1]), rowHP b0 true ([.int .u16 x0])]))))))))
theorem vc_rnote (P : Program) (Post : Value → List HP → Prop) (x0 : Int) (x1 : Int) (x2 : Int) (A0 : Nat → Int) (v0 : V1) (L : Nat → LC) : VC P Post fm_rnote { iv := [x0, x1, x2], av := [A0], bo := [], bv := [], vv := [v0] } L = st_rnote P Post x0 x1 x2 A0 v0 := by kernel_rfl
theorem run_rnote : runF cx 29 ([Go.RX.SV.vv 0, Go.RX.SV.int (Go.IntKind.i64) (Go.RX.E.var 1), Go.RX.SV.int (Go.IntKind.u16) (Go.RX.E.var 0)]) ([Go.RX.Ck.sli false 0 53 1 (Go.RX.E.var 2) [{ ck := Go.RX.CK.int (Go.IntKind.u16), w := 1, a := Go.RX.E.avar 0 }]]) ({ b := 0, v := 1, i := 3, a := 1, bo := 0, p := 0, r := 0 }) Try.f29 = fm_rnote := by kernel_rfl
def fm_law : F :=
.call 13 ([]) ([]) ({ b := 0, v := 0, i := 0, a := 0, bo := 0, p := 0, r := 0 }) (Go.RX.SV.bool (Go.RX.BE.lit true)) ([]) <|
.vc (Go.RX.BE.le (Go.RX.E.lit 0) (Go.RX.E.var 2)) <|
 .fork (Go.RX.BE.lt (Go.RX.E.lit 300) (Go.RX.E.var 2)) (.ret (Go.RX.SV.bool (Go.RX.BE.lit true)) ([Go.RX.Ck.sli false 0 53 1 (Go.RX.E.var 2) [{ ck := Go.RX.CK.int (Go.IntKind.u16), w := 1, a := Go.RX.E.avar 0 }]])) <|
.allB <| .nilV <| .nilV <| .allV <| .loop 0 ({ b := 0, v := 2, i := 2, a := 1, bo := 0, p := 0, r := 0 }) ([Go.RX.Eq2.e (Go.RX.E.var 3) (Go.RX.E.lit 0), Go.RX.Eq2.v 5 3, Go.RX.Eq2.v 4 2, Go.RX.Eq2.v 5 3, Go.RX.Eq2.e (Go.RX.E.var 4) (Go.RX.E.lit 0), Go.RX.Eq2.a (Go.RX.E.var 4) (Go.RX.E.avar 1) (Go.RX.E.lit 0), Go.RX.Eq2.v 4 2, Go.RX.Eq2.e (Go.RX.E.var 4) (Go.RX.E.lit 0), Go.RX.Eq2.a (Go.RX.E.var 4) (Go.RX.E.avar 1) (Go.RX.E.lit 0)]) <|
.fork (Go.RX.BE.lt (Go.RX.E.var 3) (Go.RX.E.var 2)) (.vc (Go.RX.BE.le (Go.RX.E.lit 0) (Go.RX.E.var 3)) <|
 .call 28 ([Go.RX.SV.ptr 0 0, Go.RX.SV.int (Go.IntKind.u16) (Go.RX.E.sel (Go.RX.E.avar 0) (Go.RX.E.var 3))]) ([Go.RX.Ck.row 0 true [Go.RX.SV.vv 4, Go.RX.SV.int (Go.IntKind.i64) (Go.RX.E.bin (Go.RX.IOp.imax) (Go.IntKind.i64) (Go.RX.E.var 0) (Go.RX.E.lit 0))], Go.RX.Ck.sli true 4 53 1 (Go.RX.E.var 4) [{ ck := Go.RX.CK.int (Go.IntKind.u16), w := 1, a := Go.RX.E.avar 1 }]]) ({ b := 0, v := 1, i := 1, a := 1, bo := 0, p := 0, r := 0 }) (Go.RX.SV.undef) ([Go.RX.Ck.row 0 true [Go.RX.SV.vv 6, Go.RX.SV.int (Go.IntKind.i64) (Go.RX.E.bin (Go.RX.IOp.imax) (Go.IntKind.i64) (Go.RX.E.var 0) (Go.RX.E.lit 0))], Go.RX.Ck.sli true 6 53 1 (Go.RX.E.var 5) [{ ck := Go.RX.CK.int (Go.IntKind.u16), w := 1, a := Go.RX.E.avar 2 }]]) <|
.call 29 ([Go.RX.SV.vv 5, Go.RX.SV.int (Go.IntKind.i64) (Go.RX.E.var 0), Go.RX.SV.int (Go.IntKind.u16) (Go.RX.E.sel (Go.RX.E.avar 0) (Go.RX.E.var 3))]) ([Go.RX.Ck.sli false 5 53 1 (Go.RX.E.var 4) [{ ck := Go.RX.CK.int (Go.IntKind.u16), w := 1, a := Go.RX.E.avar 1 }]]) ({ b := 0, v := 1, i := 1, a := 1, bo := 0, p := 0, r := 0 }) (Go.RX.SV.vv 7) ([Go.RX.Ck.sli false 7 53 1 (Go.RX.E.var 6) [{ ck := Go.RX.CK.int (Go.IntKind.u16), w := 1, a := Go.RX.E.avar 3 }]]) <|
.allB <| .vc (Go.RX.BE.le (Go.RX.E.lit 0) (Go.RX.E.var 6)) <|
 .loop 1 ({ b := 0, v := 0, i := 1, a := 0, bo := 1, p := 0, r := 0 }) ([Go.RX.Eq2.e (Go.RX.E.var 7) (Go.RX.E.lit 0), Go.RX.Eq2.b (Go.RX.BE.var 0) (Go.RX.BE.lit false)]) <|
.fork (Go.RX.BE.lt (Go.RX.E.var 7) (Go.RX.E.var 6)) (.vc (Go.RX.BE.le (Go.RX.E.lit 0) (Go.RX.E.var 7)) <|
 .vc (Go.RX.BE.le (Go.RX.E.lit (-9223372036854775808)) (Go.RX.E.bin (Go.RX.IOp.add) (Go.IntKind.i64) (Go.RX.E.var 7) (Go.RX.E.lit 1))) <|
 .vc (Go.RX.BE.le (Go.RX.E.bin (Go.RX.IOp.add) (Go.IntKind.i64) (Go.RX.E.var 7) (Go.RX.E.lit 1)) (Go.RX.E.lit 9223372036854775807)) <|
 .back 1 ({ b := 2, v := 8, i := 7, a := 4, bo := 0, p := 0, r := 0 }) ({ b := 0, v := 0, i := 1, a := 0, bo := 1, p := 0, r := 0 }) ([Go.RX.Eq2.e (Go.RX.E.var 7) (Go.RX.E.bin (Go.RX.IOp.add) (Go.IntKind.i64) (Go.RX.E.var 7) (Go.RX.E.lit 1)), Go.RX.Eq2.b (Go.RX.BE.var 0) (Go.RX.BE.or (Go.RX.BE.var 0) (Go.RX.BE.eq (Go.RX.E.sel (Go.RX.E.avar 3) (Go.RX.E.var 7)) (Go.RX.E.sel (Go.RX.E.avar 0) (Go.RX.E.var 3))))])) <|
.call 30 ([Go.RX.SV.ptr 0 0, Go.RX.SV.int (Go.IntKind.u16) (Go.RX.E.sel (Go.RX.E.avar 0) (Go.RX.E.var 3))]) ([Go.RX.Ck.row 0 true [Go.RX.SV.vv 6, Go.RX.SV.int (Go.IntKind.i64) (Go.RX.E.bin (Go.RX.IOp.imax) (Go.IntKind.i64) (Go.RX.E.var 0) (Go.RX.E.lit 0))], Go.RX.Ck.sli true 6 53 1 (Go.RX.E.var 5) [{ ck := Go.RX.CK.int (Go.IntKind.u16), w := 1, a := Go.RX.E.avar 2 }]]) ({ b := 0, v := 0, i := 0, a := 0, bo := 1, p := 0, r := 0 }) (Go.RX.SV.bool (Go.RX.BE.var 1)) ([Go.RX.Ck.row 0 true [Go.RX.SV.vv 6, Go.RX.SV.int (Go.IntKind.i64) (Go.RX.E.bin (Go.RX.IOp.imax) (Go.IntKind.i64) (Go.RX.E.var 0) (Go.RX.E.lit 0))], Go.RX.Ck.sli true 6 53 1 (Go.RX.E.var 5) [{ ck := Go.RX.CK.int (Go.IntKind.u16), w := 1, a := Go.RX.E.avar 2 }]]) <|
.fork (Go.RX.BE.not (Go.RX.BE.ite (Go.RX.BE.var 1) (Go.RX.BE.var 0) (Go.RX.BE.not (Go.RX.BE.var 0)))) (.ret (Go.RX.SV.bool (Go.RX.BE.lit false)) ([Go.RX.Ck.sli false 0 53 1 (Go.RX.E.var 2) [{ ck := Go.RX.CK.int (Go.IntKind.u16), w := 1, a := Go.RX.E.avar 0 }], Go.RX.Ck.row 0 true [Go.RX.SV.vv 6, Go.RX.SV.int (Go.IntKind.i64) (Go.RX.E.bin (Go.RX.IOp.imax) (Go.IntKind.i64) (Go.RX.E.var 0) (Go.RX.E.lit 0))], Go.RX.Ck.sli false 7 53 1 (Go.RX.E.var 6) [{ ck := Go.RX.CK.int (Go.IntKind.u16), w := 1, a := Go.RX.E.avar 3 }], Go.RX.Ck.sli true 6 53 1 (Go.RX.E.var 5) [{ ck := Go.RX.CK.int (Go.IntKind.u16), w := 1, a := Go.RX.E.avar 2 }], Go.RX.Ck.row 1 true [Go.RX.SV.int (Go.IntKind.u16) (Go.RX.E.sel (Go.RX.E.avar 0) (Go.RX.E.var 3)), Go.RX.SV.int (Go.IntKind.u16) (Go.RX.E.var 1), Go.RX.SV.int (Go.IntKind.u16) (Go.RX.E.wrap (Go.IntKind.u16) (Go.RX.E.bin (Go.RX.IOp.add) (Go.IntKind.i64) (Go.RX.E.sel (Go.RX.E.avar 0) (Go.RX.E.var 3)) (Go.RX.E.lit 1)))]])) <|
.vc (Go.RX.BE.le (Go.RX.E.lit 0) (Go.RX.E.var 6)) <|
 .loop 1 ({ b := 0, v := 0, i := 1, a := 0, bo := 1, p := 0, r := 0 }) ([Go.RX.Eq2.e (Go.RX.E.var 8) (Go.RX.E.lit 0), Go.RX.Eq2.b (Go.RX.BE.var 2) (Go.RX.BE.lit false)]) <|
.fork (Go.RX.BE.lt (Go.RX.E.var 8) (Go.RX.E.var 6)) (.vc (Go.RX.BE.le (Go.RX.E.lit 0) (Go.RX.E.var 8)) <|
 .vc (Go.RX.BE.le (Go.RX.E.lit (-9223372036854775808)) (Go.RX.E.bin (Go.RX.IOp.add) (Go.IntKind.i64) (Go.RX.E.var 8) (Go.RX.E.lit 1))) <|
 .vc (Go.RX.BE.le (Go.RX.E.bin (Go.RX.IOp.add) (Go.IntKind.i64) (Go.RX.E.var 8) (Go.RX.E.lit 1)) (Go.RX.E.lit 9223372036854775807)) <|
 .back 1 ({ b := 2, v := 8, i := 8, a := 4, bo := 2, p := 0, r := 0 }) ({ b := 0, v := 0, i := 1, a := 0, bo := 1, p := 0, r := 0 }) ([Go.RX.Eq2.e (Go.RX.E.var 8) (Go.RX.E.bin (Go.RX.IOp.add) (Go.IntKind.i64) (Go.RX.E.var 8) (Go.RX.E.lit 1)), Go.RX.Eq2.b (Go.RX.BE.var 2) (Go.RX.BE.or (Go.RX.BE.var 2) (Go.RX.BE.eq (Go.RX.E.sel (Go.RX.E.avar 3) (Go.RX.E.var 8)) (Go.RX.E.var 1)))])) <|
.call 30 ([Go.RX.SV.ptr 0 0, Go.RX.SV.int (Go.IntKind.u16) (Go.RX.E.var 1)]) ([Go.RX.Ck.row 0 true [Go.RX.SV.vv 6, Go.RX.SV.int (Go.IntKind.i64) (Go.RX.E.bin (Go.RX.IOp.imax) (Go.IntKind.i64) (Go.RX.E.var 0) (Go.RX.E.lit 0))], Go.RX.Ck.sli true 6 53 1 (Go.RX.E.var 5) [{ ck := Go.RX.CK.int (Go.IntKind.u16), w := 1, a := Go.RX.E.avar 2 }]]) ({ b := 0, v := 0, i := 0, a := 0, bo := 1, p := 0, r := 0 }) (Go.RX.SV.bool (Go.RX.BE.var 3)) ([Go.RX.Ck.row 0 true [Go.RX.SV.vv 6, Go.RX.SV.int (Go.IntKind.i64) (Go.RX.E.bin (Go.RX.IOp.imax) (Go.IntKind.i64) (Go.RX.E.var 0) (Go.RX.E.lit 0))], Go.RX.Ck.sli true 6 53 1 (Go.RX.E.var 5) [{ ck := Go.RX.CK.int (Go.IntKind.u16), w := 1, a := Go.RX.E.avar 2 }]]) <|
.fork (Go.RX.BE.not (Go.RX.BE.ite (Go.RX.BE.var 3) (Go.RX.BE.var 2) (Go.RX.BE.not (Go.RX.BE.var 2)))) (.ret (Go.RX.SV.bool (Go.RX.BE.lit false)) ([Go.RX.Ck.sli false 0 53 1 (Go.RX.E.var 2) [{ ck := Go.RX.CK.int (Go.IntKind.u16), w := 1, a := Go.RX.E.avar 0 }], Go.RX.Ck.row 0 true [Go.RX.SV.vv 6, Go.RX.SV.int (Go.IntKind.i64) (Go.RX.E.bin (Go.RX.IOp.imax) (Go.IntKind.i64) (Go.RX.E.var 0) (Go.RX.E.lit 0))], Go.RX.Ck.sli false 7 53 1 (Go.RX.E.var 6) [{ ck := Go.RX.CK.int (Go.IntKind.u16), w := 1, a := Go.RX.E.avar 3 }], Go.RX.Ck.sli true 6 53 1 (Go.RX.E.var 5) [{ ck := Go.RX.CK.int (Go.IntKind.u16), w := 1, a := Go.RX.E.avar 2 }], Go.RX.Ck.row 1 true [Go.RX.SV.int (Go.IntKind.u16) (Go.RX.E.sel (Go.RX.E.avar 0) (Go.RX.E.var 3)), Go.RX.SV.int (Go.IntKind.u16) (Go.RX.E.var 1), Go.RX.SV.int (Go.IntKind.u16) (Go.RX.E.wrap (Go.IntKind.u16) (Go.RX.E.bin (Go.RX.IOp.add) (Go.IntKind.i64) (Go.RX.E.sel (Go.RX.E.avar 0) (Go.RX.E.var 3)) (Go.RX.E.lit 1)))]])) <|
.vc (Go.RX.BE.le (Go.RX.E.lit 0) (Go.RX.E.var 6)) <|
 .loop 1 ({ b := 0, v := 0, i := 1, a := 0, bo := 1, p := 0, r := 0 }) ([Go.RX.Eq2.e (Go.RX.E.var 9) (Go.RX.E.lit 0), Go.RX.Eq2.b (Go.RX.BE.var 4) (Go.RX.BE.lit false)]) <|
.fork (Go.RX.BE.lt (Go.RX.E.var 9) (Go.RX.E.var 6)) (.vc (Go.RX.BE.le (Go.RX.E.lit 0) (Go.RX.E.var 9)) <|
 .vc (Go.RX.BE.le (Go.RX.E.lit (-9223372036854775808)) (Go.RX.E.bin (Go.RX.IOp.add) (Go.IntKind.i64) (Go.RX.E.var 9) (Go.RX.E.lit 1))) <|
 .vc (Go.RX.BE.le (Go.RX.E.bin (Go.RX.IOp.add) (Go.IntKind.i64) (Go.RX.E.var 9) (Go.RX.E.lit 1)) (Go.RX.E.lit 9223372036854775807)) <|
 .back 1 ({ b := 2, v := 8, i := 9, a := 4, bo := 4, p := 0, r := 0 }) ({ b := 0, v := 0, i := 1, a := 0, bo := 1, p := 0, r := 0 }) ([Go.RX.Eq2.e (Go.RX.E.var 9) (Go.RX.E.bin (Go.RX.IOp.add) (Go.IntKind.i64) (Go.RX.E.var 9) (Go.RX.E.lit 1)), Go.RX.Eq2.b (Go.RX.BE.var 4) (Go.RX.BE.or (Go.RX.BE.var 4) (Go.RX.BE.eq (Go.RX.E.sel (Go.RX.E.avar 3) (Go.RX.E.var 9)) (Go.RX.E.wrap (Go.IntKind.u16) (Go.RX.E.bin (Go.RX.IOp.add) (Go.IntKind.i64) (Go.RX.E.sel (Go.RX.E.avar 0) (Go.RX.E.var 3)) (Go.RX.E.lit 1)))))])) <|
.call 30 ([Go.RX.SV.ptr 0 0, Go.RX.SV.int (Go.IntKind.u16) (Go.RX.E.wrap (Go.IntKind.u16) (Go.RX.E.bin (Go.RX.IOp.add) (Go.IntKind.i64) (Go.RX.E.sel (Go.RX.E.avar 0) (Go.RX.E.var 3)) (Go.RX.E.lit 1)))]) ([Go.RX.Ck.row 0 true [Go.RX.SV.vv 6, Go.RX.SV.int (Go.IntKind.i64) (Go.RX.E.bin (Go.RX.IOp.imax) (Go.IntKind.i64) (Go.RX.E.var 0) (Go.RX.E.lit 0))], Go.RX.Ck.sli true 6 53 1 (Go.RX.E.var 5) [{ ck := Go.RX.CK.int (Go.IntKind.u16), w := 1, a := Go.RX.E.avar 2 }]]) ({ b := 0, v := 0, i := 0, a := 0, bo := 1, p := 0, r := 0 }) (Go.RX.SV.bool (Go.RX.BE.var 5)) ([Go.RX.Ck.row 0 true [Go.RX.SV.vv 6, Go.RX.SV.int (Go.IntKind.i64) (Go.RX.E.bin (Go.RX.IOp.imax) (Go.IntKind.i64) (Go.RX.E.var 0) (Go.RX.E.lit 0))], Go.RX.Ck.sli true 6 53 1 (Go.RX.E.var 5) [{ ck := Go.RX.CK.int (Go.IntKind.u16), w := 1, a := Go.RX.E.avar 2 }]]) <|
.fork (Go.RX.BE.not (Go.RX.BE.ite (Go.RX.BE.var 5) (Go.RX.BE.var 4) (Go.RX.BE.not (Go.RX.BE.var 4)))) (.ret (Go.RX.SV.bool (Go.RX.BE.lit false)) ([Go.RX.Ck.sli false 0 53 1 (Go.RX.E.var 2) [{ ck := Go.RX.CK.int (Go.IntKind.u16), w := 1, a := Go.RX.E.avar 0 }], Go.RX.Ck.row 0 true [Go.RX.SV.vv 6, Go.RX.SV.int (Go.IntKind.i64) (Go.RX.E.bin (Go.RX.IOp.imax) (Go.IntKind.i64) (Go.RX.E.var 0) (Go.RX.E.lit 0))], Go.RX.Ck.sli false 7 53 1 (Go.RX.E.var 6) [{ ck := Go.RX.CK.int (Go.IntKind.u16), w := 1, a := Go.RX.E.avar 3 }], Go.RX.Ck.sli true 6 53 1 (Go.RX.E.var 5) [{ ck := Go.RX.CK.int (Go.IntKind.u16), w := 1, a := Go.RX.E.avar 2 }], Go.RX.Ck.row 1 true [Go.RX.SV.int (Go.IntKind.u16) (Go.RX.E.sel (Go.RX.E.avar 0) (Go.RX.E.var 3)), Go.RX.SV.int (Go.IntKind.u16) (Go.RX.E.var 1), Go.RX.SV.int (Go.IntKind.u16) (Go.RX.E.wrap (Go.IntKind.u16) (Go.RX.E.bin (Go.RX.IOp.add) (Go.IntKind.i64) (Go.RX.E.sel (Go.RX.E.avar 0) (Go.RX.E.var 3)) (Go.RX.E.lit 1)))]])) <|
.vc (Go.RX.BE.le (Go.RX.E.lit (-9223372036854775808)) (Go.RX.E.bin (Go.RX.IOp.add) (Go.IntKind.i64) (Go.RX.E.var 3) (Go.RX.E.lit 1))) <|
 .vc (Go.RX.BE.le (Go.RX.E.bin (Go.RX.IOp.add) (Go.IntKind.i64) (Go.RX.E.var 3) (Go.RX.E.lit 1)) (Go.RX.E.lit 9223372036854775807)) <|
 .back 0 ({ b := 1, v := 4, i := 3, a := 1, bo := 0, p := 0, r := 0 }) ({ b := 0, v := 2, i := 2, a := 1, bo := 0, p := 0, r := 0 }) ([Go.RX.Eq2.e (Go.RX.E.var 3) (Go.RX.E.bin (Go.RX.IOp.add) (Go.IntKind.i64) (Go.RX.E.var 3) (Go.RX.E.lit 1)), Go.RX.Eq2.v 5 7, Go.RX.Eq2.v 4 6, Go.RX.Eq2.v 5 7, Go.RX.Eq2.e (Go.RX.E.var 4) (Go.RX.E.var 6), Go.RX.Eq2.a (Go.RX.E.var 4) (Go.RX.E.avar 1) (Go.RX.E.avar 3), Go.RX.Eq2.v 4 6, Go.RX.Eq2.e (Go.RX.E.var 4) (Go.RX.E.var 5), Go.RX.Eq2.a (Go.RX.E.var 4) (Go.RX.E.avar 1) (Go.RX.E.avar 2)])) <|
.ret (Go.RX.SV.bool (Go.RX.BE.lit true)) ([Go.RX.Ck.sli false 0 53 1 (Go.RX.E.var 2) [{ ck := Go.RX.CK.int (Go.IntKind.u16), w := 1, a := Go.RX.E.avar 0 }], Go.RX.Ck.row 0 true [Go.RX.SV.vv 4, Go.RX.SV.int (Go.IntKind.i64) (Go.RX.E.bin (Go.RX.IOp.imax) (Go.IntKind.i64) (Go.RX.E.var 0) (Go.RX.E.lit 0))], Go.RX.Ck.sli false 5 53 1 (Go.RX.E.var 4) [{ ck := Go.RX.CK.int (Go.IntKind.u16), w := 1, a := Go.RX.E.avar 1 }], Go.RX.Ck.sli true 4 53 1 (Go.RX.E.var 4) [{ ck := Go.RX.CK.int (Go.IntKind.u16), w := 1, a := Go.RX.E.avar 1 }]])
def st_law (P : Program) (Post : Value → List HP → Prop) (x0 : Int) (x1 : Int) (x2 : Int) (A0 : Nat → Int) (v0 : V1) : Prop :=
∃ post, Meets P 13 [] [] post ∧
∀ x hs, post x hs → x = .bool true ∧ hs = [] ∧
 Need (0 ≤ x2) (
 Fork (300 < x2) (
  Post (.bool true) [sliHP false 53 1 v0.v (Int.toNat x2) (tabL (Int.toNat x2) [colI .u16 1 A0])]) (
  ∀ b0 : Nat, ∀ v3 : V1, ∃ (I0x2 : Ext → Prop) (m0x2 : Ext → Nat), (∃ v4 : V1, ∃ v5 : V1, ∃ x3 : Int, ∃ x4 : Int, ∃ A1 : (Nat → Int), x3 = 0 ∧ v5 = v3 ∧ v4 = (⟨.slice none 0 0, rfl⟩ : V1) ∧ v5 = v3 ∧ x4 = 0 ∧ (∀ j, j < (Int.toNat x4) → A1 j = (fun _ => 0) j) ∧ v4 = (⟨.slice none 0 0, rfl⟩ : V1) ∧ x4 = 0 ∧ (∀ j, j < (Int.toNat x4) → A1 j = (fun _ => 0) j) ∧ I0x2 ⟨[], [v4, v5], [x3, x4], [A1], [], [], []⟩) ∧
  ∀ v4 : V1, ∀ v5 : V1, ∀ x3 : Int, ∀ x4 : Int, ∀ A1 : (Nat → Int), I0x2 ⟨[], [v4, v5], [x3, x4], [A1], [], [], []⟩ →
    Fork (x3 < x2) (
      Need (0 ≤ x3) (
      ∃ post, Meets P 28 [.pointer (some ⟨b0, 0, none⟩), .int .u16 (A0 (Int.toNat x3))] [rowHP b0 true ([v4.v, .int .i64 (iop .imax .i64 x0 0)]), sliHP true 53 1 v4.v (Int.toNat x4) (tabL (Int.toNat x4) [colI .u16 1 A1])] post ∧
      ∀ x hs, post x hs → ∃ v6 : V1, ∃ x5 : Int, ∃ A2 : (Nat → Int), x = undef ∧ hs = [rowHP b0 true ([v6.v, .int .i64 (iop .imax .i64 x0 0)]), sliHP true 53 1 v6.v (Int.toNat x5) (tabL (Int.toNat x5) [colI .u16 1 A2])] ∧
      ∃ post, Meets P 29 [v5.v, .int .i64 x0, .int .u16 (A0 (Int.toNat x3))] [sliHP false 53 1 v5.v (Int.toNat x4) (tabL (Int.toNat x4) [colI .u16 1 A1])] post ∧
      ∀ x hs, post x hs → ∃ v7 : V1, ∃ x6 : Int, ∃ A3 : (Nat → Int), x = v7.v ∧ hs = [sliHP false 53 1 v7.v (Int.toNat x6) (tabL (Int.toNat x6) [colI .u16 1 A3])] ∧
      ∀ b1 : Nat, Need (0 ≤ x6) (
      ∃ (I1x6 : Ext → Prop) (m1x6 : Ext → Nat), (∃ x7 : Int, ∃ q0 : Bool, x7 = 0 ∧ q0 = false ∧ I1x6 ⟨[], [], [x7], [], [q0], [], []⟩) ∧
      ∀ x7 : Int, ∀ q0 : Bool, I1x6 ⟨[], [], [x7], [], [q0], [], []⟩ →
        Fork (x7 < x6) (
          Need (0 ≤ x7) (
          Need ((-9223372036854775808) ≤ (x7 + 1)) (
          Need ((x7 + 1) ≤ 9223372036854775807) (
          ∃ x7' : Int, ∃ q0' : Bool, x7' = (x7 + 1) ∧ q0' = (q0 || ((A3 (Int.toNat x7)) == (A0 (Int.toNat x3)))) ∧ I1x6 ⟨[], [], [x7'], [], [q0'], [], []⟩ ∧ m1x6 ⟨[], [], [x7'], [], [q0'], [], []⟩ < m1x6 ⟨[], [], [x7], [], [q0], [], []⟩)))) (
          ∃ post, Meets P 30 [.pointer (some ⟨b0, 0, none⟩), .int .u16 (A0 (Int.toNat x3))] [rowHP b0 true ([v6.v, .int .i64 (iop .imax .i64 x0 0)]), sliHP true 53 1 v6.v (Int.toNat x5) (tabL (Int.toNat x5) [colI .u16 1 A2])] post ∧
          ∀ x hs, post x hs → ∃ q1 : Bool, x = .bool q1 ∧ hs = [rowHP b0 true ([v6.v, .int .i64 (iop .imax .i64 x0 0)]), sliHP true 53 1 v6.v (Int.toNat x5) (tabL (Int.toNat x5) [colI .u16 1 A2])] ∧
          Fork (¬ (((q1 = true) → (q0 = true)) ∧ (¬ (q1 = true) → (¬ (q0 = true))))) (
            Post (.bool false) [sliHP false 53 1 v0.v (Int.toNat x2) (tabL (Int.toNat x2) [colI .u16 1 A0]), rowHP b0 true ([v6.v, .int .i64 (iop .imax .i64 x0 0)]), sliHP false 53 1 v7.v (Int.toNat x6) (tabL (Int.toNat x6) [colI .u16 1 A3]), sliHP true 53 1 v6.v (Int.toNat x5) (tabL (Int.toNat x5) [colI .u16 1 A2]), rowHP b1 true ([.int .u16 (A0 (Int.toNat x3)), .int .u16 x1, .int .u16 (IntKind.wrap .u16 ((A0 (Int.toNat x3)) + 1))])]) (
            Need (0 ≤ x6) (
            ∃ (I1x12 : Ext → Prop) (m1x12 : Ext → Nat), (∃ x8 : Int, ∃ q2 : Bool, x8 = 0 ∧ q2 = false ∧ I1x12 ⟨[], [], [x8], [], [q2], [], []⟩) ∧
            ∀ x8 : Int, ∀ q2 : Bool, I1x12 ⟨[], [], [x8], [], [q2], [], []⟩ →
              Fork (x8 < x6) (
                Need (0 ≤ x8) (
                Need ((-9223372036854775808) ≤ (x8 + 1)) (
                Need ((x8 + 1) ≤ 9223372036854775807) (
                ∃ x8' : Int, ∃ q2' : Bool, x8' = (x8 + 1) ∧ q2' = (q2 || ((A3 (Int.toNat x8)) == x1)) ∧ I1x12 ⟨[], [], [x8'], [], [q2'], [], []⟩ ∧ m1x12 ⟨[], [], [x8'], [], [q2'], [], []⟩ < m1x12 ⟨[], [], [x8], [], [q2], [], []⟩)))) (
                ∃ post, Meets P 30 [.pointer (some ⟨b0, 0, none⟩), .int .u16 x1] [rowHP b0 true ([v6.v, .int .i64 (iop .imax .i64 x0 0)]), sliHP true 53 1 v6.v (Int.toNat x5) (tabL (Int.toNat x5) [colI .u16 1 A2])] post ∧
                ∀ x hs, post x hs → ∃ q3 : Bool, x = .bool q3 ∧ hs = [rowHP b0 true ([v6.v, .int .i64 (iop .imax .i64 x0 0)]), sliHP true 53 1 v6.v (Int.toNat x5) (tabL (Int.toNat x5) [colI .u16 1 A2])] ∧
                Fork (¬ (((q3 = true) → (q2 = true)) ∧ (¬ (q3 = true) → (¬ (q2 = true))))) (
                  Post (.bool false) [sliHP false 53 1 v0.v (Int.toNat x2) (tabL (Int.toNat x2) [colI .u16 1 A0]), rowHP b0 true ([v6.v, .int .i64 (iop .imax .i64 x0 0)]), sliHP false 53 1 v7.v (Int.toNat x6) (tabL (Int.toNat x6) [colI .u16 1 A3]), sliHP true 53 1 v6.v (Int.toNat x5) (tabL (Int.toNat x5) [colI .u16 1 A2]), rowHP b1 true ([.int .u16 (A0 (Int.toNat x3)), .int .u16 x1, .int .u16 (IntKind.wrap .u16 ((A0 (Int.toNat x3)) + 1))])]) (
                  Need (0 ≤ x6) (
                  ∃ (I1x18 : Ext → Prop) (m1x18 : Ext → Nat), (∃ x9 : Int, ∃ q4 : Bool, x9 = 0 ∧ q4 = false ∧ I1x18 ⟨[], [], [x9], [], [q4], [], []⟩) ∧
                  ∀ x9 : Int, ∀ q4 : Bool, I1x18 ⟨[], [], [x9], [], [q4], [], []⟩ →
                    Fork (x9 < x6) (
                      Need (0 ≤ x9) (
                      Need ((-9223372036854775808) ≤ (x9 + 1)) (
                      Need ((x9 + 1) ≤ 9223372036854775807) (
                      ∃ x9' : Int, ∃ q4' : Bool, x9' = (x9 + 1) ∧ q4' = (q4 || ((A3 (Int.toNat x9)) == (IntKind.wrap .u16 ((A0 (Int.toNat x3)) + 1)))) ∧ I1x18 ⟨[], [], [x9'], [], [q4'], [], []⟩ ∧ m1x18 ⟨[], [], [x9'], [], [q4'], [], []⟩ < m1x18 ⟨[], [], [x9], [], [q4], [], []⟩)))) (
                      ∃ post, Meets P 30 [.pointer (some ⟨b0, 0, none⟩), .int .u16 (IntKind.wrap .u16 ((A0 (Int.toNat x3)) + 1))] [rowHP b0 true ([v6.v, .int .i64 (iop .imax .i64 x0 0)]), sliHP true 53 1 v6.v (Int.toNat x5) (tabL (Int.toNat x5) [colI .u16 1 A2])] post ∧
                      ∀ x hs, post x hs → ∃ q5 : Bool, x = .bool q5 ∧ hs = [rowHP b0 true ([v6.v, .int .i64 (iop .imax .i64 x0 0)]), sliHP true 53 1 v6.v (Int.toNat x5) (tabL (Int.toNat x5) [colI .u16 1 A2])] ∧
                      Fork (¬ (((q5 = true) → (q4 = true)) ∧ (¬ (q5 = true) → (¬ (q4 = true))))) (
                        Post (.bool false) [sliHP false 53 1 v0.v (Int.toNat x2) (tabL (Int.toNat x2) [colI .u16 1 A0]), rowHP b0 true ([v6.v, .int .i64 (iop .imax .i64 x0 0)]), sliHP false 53 1 v7.v (Int.toNat x6) (tabL (Int.toNat x6) [colI .u16 1 A3]), sliHP true 53 1 v6.v (Int.toNat x5) (tabL (Int.toNat x5) [colI .u16 1 A2]), rowHP b1 true ([.int .u16 (A0 (Int.toNat x3)), .int .u16 x1, .int .u16 (IntKind.wrap .u16 ((A0 (Int.toNat x3)) + 1))])]) (
                        Need ((-9223372036854775808) ≤ (x3 + 1)) (
                        Need ((x3 + 1) ≤ 9223372036854775807) (
                        ∃ v4' : V1, ∃ v5' : V1, ∃ x3' : Int, ∃ x4' : Int, ∃ A1' : (Nat → Int), x3' = (x3 + 1) ∧ v5' = v7 ∧ v4' = v6 ∧ v5' = v7 ∧ x4' = x6 ∧ (∀ j, j < (Int.toNat x4') → A1' j = A3 j) ∧ v4' = v6 ∧ x4' = x5 ∧ (∀ j, j < (Int.toNat x4') → A1' j = A2 j) ∧ I0x2 ⟨[], [v4', v5'], [x3', x4'], [A1'], [], [], []⟩ ∧ m0x2 ⟨[], [v4', v5'], [x3', x4'], [A1'], [], [], []⟩ < m0x2 ⟨[], [v4, v5], [x3, x4], [A1], [], [], []⟩))))))))))))) (
      Post (.bool true) [sliHP false 53 1 v0.v (Int.toNat x2) (tabL (Int.toNat x2) [colI .u16 1 A0]), rowHP b0 true ([v4.v, .int .i64 (iop .imax .i64 x0 0)]), sliHP false 53 1 v5.v (Int.toNat x4) (tabL (Int.toNat x4) [colI .u16 1 A1]), sliHP true 53 1 v4.v (Int.toNat x4) (tabL (Int.toNat x4) [colI .u16 1 A1])])))
theorem vc_law (P : Program) (Post : Value → List HP → Prop) (x0 : Int) (x1 : Int) (x2 : Int) (A0 : Nat → Int) (v0 : V1) (L : Nat → LC) : VC P Post fm_law { iv := [x0, x1, x2], av := [A0], bo := [], bv := [], vv := [v0] } L = st_law P Post x0 x1 x2 A0 v0 := by kernel_rfl
theorem run_law : runF cx 5 ([Go.RX.SV.int (Go.IntKind.i64) (Go.RX.E.var 0), Go.RX.SV.vv 0, Go.RX.SV.int (Go.IntKind.u16) (Go.RX.E.var 1)]) ([Go.RX.Ck.sli false 0 53 1 (Go.RX.E.var 2) [{ ck := Go.RX.CK.int (Go.IntKind.u16), w := 1, a := Go.RX.E.avar 0 }]]) ({ b := 0, v := 1, i := 3, a := 1, bo := 0, p := 0, r := 0 }) Try.f5 = fm_law := by kernel_rfl

end Go.RX.Rm
