/- ScriptReads: what the law leaves to be shown; printed by a program of ours (wip/tools). -/
import Derived.Test.YtgaabcinjbjbgaaGreatDoorM27
import Derived.Test.YtgaabcinjbjbgaaGreatDoorM28

namespace Go.RX.Tr
open Go.RX Go.Proofs
noncomputable def cx : Ctx := { T := TT, FT := FT, loops := loops, callees := callees, pure := pure }
set_option maxRecDepth 100000
noncomputable def fm_law : F := runF cx 3 ([SV.strE (E.avar 0), SV.int (Go.IntKind.i64) (E.var 0)]) ([Ck.abs 0, Ck.abs 1, Ck.abs 2, Ck.abs 3]) ({ b := 0, v := 0, i := 1, a := 1, bo := 0, p := 4, r := 0 }) Tryz.f3
def st_loop (P : Program) (Post : Value → List HP → Prop) (x0 x6 : Int) (A0 A9 A10 A11 A12 A13 A14 A15 A16 A17 : Nat → Int) (p0 p3 p5 : HP) : Prop :=
 ∀ _ : Nat, ∀ _ : Nat, ∀ (_ _ : Nat) (_ : Loop), ∀ _ : Nat, ∀ _ : Nat, ∀ _ : Nat, Fork (262144 < (A0 0)) (
 Need (0 ≤ x6) (
 Post (.bool (0 == (iop .imin .i64 x6 (iop .imax .i64 x0 1)))) [])) (
 ∀ _ : Nat, ∀ _ : Nat, ∀ _ : Nat, ∀ _ : Nat, ∀ _ : Nat, ∀ (_ _ : Nat) (_ : Loop), ∃ (I0x8 : Ext → Prop) (m0x8 : Ext → Nat), (∃ x7 : Int, ∃ x8 : Int, ∃ x9 : Int, ∃ A18 : (Nat → Int), ∃ p6 : HP, p6 = p3 ∧ x7 = 0 ∧ x8 = 0 ∧ x9 = 0 ∧ (A18 = A0) ∧ I0x8 ⟨[], [], [x7, x8, x9], [A18], [], [p6], []⟩) ∧
 ∀ x7 : Int, ∀ x8 : Int, ∀ x9 : Int, ∀ A18 : (Nat → Int), ∀ p6 : HP, I0x8 ⟨[], [], [x7, x8, x9], [A18], [], [p6], []⟩ →
 ∃ post, Meets P 108 [.string ⟨(strD A18).toArray⟩, .string ⟨#[10]⟩] [] post ∧
 ∀ x hs, post x hs → ∃ x10 : Int, x = .int .i64 x10 ∧ hs = [] ∧
 Fork (x10 < 0) (
 Need ((-9223372036854775808) ≤ (x8 + 1)) (
 Need ((x8 + 1) ≤ 9223372036854775807) (
 ∃ post, Meets P 56 [.string ⟨(strD A18).toArray⟩, .string ⟨#[35]⟩] [p0] post ∧
 ∀ x hs, post x hs → ∃ A19 : (Nat → Int), ∃ A20 : (Nat → Int), ∃ q1 : Bool, x = .tuple #[.string ⟨(strD A19).toArray⟩, .string ⟨(strD A20).toArray⟩, .bool q1] ∧ hs = [p0] ∧
 ∃ post, Meets P 62 [.string ⟨(strD A19).toArray⟩, .func (.func 63) #[] #[]] [p0] post ∧
 ∀ x hs, post x hs → ∃ v3 : V1, ∃ x11 : Int, ∃ A21 : (Nat → Int), x = v3.v ∧ hs = [p0, sliHP true 9 1 v3.v (Int.toNat x11) (tabL (Int.toNat x11) [colV 1 (fun j => .string ⟨(strD (at2F A21 j)).toArray⟩)])] ∧
 Need (0 ≤ x11) (
 Fork (x11 = 0) (
 Need (0 ≤ x6) (
 Post (.bool (x7 == (iop .imin .i64 x6 (iop .imax .i64 x0 1)))) [])) (
 ∃ post, Meets P 64 [v3.v] [p0, p6, sliHP true 9 1 v3.v (Int.toNat x11) (tabL (Int.toNat x11) [colV 1 (fun j => .string ⟨(strD (at2F A21 j)).toArray⟩)])] post ∧
 ∀ x hs, post x hs → ∃ x12 : Int, ∃ x13 : Int, ∃ x14 : Int, ∃ x15 : Int, ∃ x16 : Int, ∃ x17 : Int, ∃ x18 : Int, ∃ x19 : Int, ∃ x20 : Int, ∃ p7 : HP, x = .tuple #[.agg #[.int .u8 x12, .int .u8 x13, .int .u8 x14, .int .u8 x15, .int .u8 x16, .int .i64 x17, .int .u64 x18, (bslV x19)], .int .i64 x20] ∧ hs = [p0, p7, sliHP true 9 1 v3.v (Int.toNat x11) (tabL (Int.toNat x11) [colV 1 (fun j => .string ⟨(strD (at2F A21 j)).toArray⟩)])] ∧
 ∀ _ : Nat, Fork ((x20 = 0) ∧ (x9 = 1000)) (
 Need (0 ≤ x6) (
 Post (.bool (x7 == (iop .imin .i64 x6 (iop .imax .i64 x0 1)))) [])) (
 Fork (¬ (x20 = 0)) (
 Need (0 ≤ x6) (
 Post (.bool (x7 == (iop .imin .i64 x6 (iop .imax .i64 x0 1)))) [])) (
 Need ((-9223372036854775808) ≤ (x9 + 1)) (
 Need ((x9 + 1) ≤ 9223372036854775807) (
 ∀ _ : Nat, Need (0 ≤ x6) (
 Need ((x6 ≤ x7) ∨ (0 ≤ x7)) (
 Need ((x6 ≤ x7) ∨ (x7 < x6)) (
 Need ((x6 ≤ x7) ∨ (0 ≤ x7)) (
 Need ((x6 ≤ x7) ∨ (x7 < x6)) (
 Need (((x6 ≤ x7) ∨ (¬ ((x8 + 1) = (A17 (Int.toNat x7))))) ∨ (0 ≤ x7)) (
 Need (((x6 ≤ x7) ∨ (¬ ((x8 + 1) = (A17 (Int.toNat x7))))) ∨ (x7 < x6)) (
 Need (((x6 ≤ x7) ∨ (¬ ((x8 + 1) = (A17 (Int.toNat x7))))) ∨ (0 ≤ x7)) (
 Need (((x6 ≤ x7) ∨ (¬ ((x8 + 1) = (A17 (Int.toNat x7))))) ∨ (x7 < x6)) (
 Fork (¬ ((x6 ≤ x7) ∨ (¬ ((x8 + 1) = (A17 (Int.toNat x7)))))) (
 ∃ post, Meets P 12 [.agg #[.int .u8 x12, .int .u8 x13, .int .u8 x14, .int .u8 x15, .int .u8 x16, .int .i64 x17, .int .u64 x18, (bslV x19)], .agg #[.int .u8 (A9 (Int.toNat x7)), .int .u8 (A10 (Int.toNat x7)), .int .u8 (A11 (Int.toNat x7)), .int .u8 (A12 (Int.toNat x7)), .int .u8 (A13 (Int.toNat x7)), .int .i64 (A14 (Int.toNat x7)), .int .u64 (A15 (Int.toNat x7)), (bslV (A16 (Int.toNat x7)))]] [p7, p5] post ∧
 ∀ x hs, post x hs → ∃ q2 : Bool, x = .bool q2 ∧ hs = [p7, p5] ∧
 Fork (¬ (q2 = true)) (
 Post (.bool false) []) (
 Need ((-9223372036854775808) ≤ (x7 + 1)) (
 Need ((x7 + 1) ≤ 9223372036854775807) (
 Fork (x0 ≤ (x7 + 1)) (
 Post (.bool ((x7 + 1) == (iop .imin .i64 x6 (iop .imax .i64 x0 1)))) []) (
 Post (.bool ((x7 + 1) == (iop .imin .i64 x6 (iop .imax .i64 x0 1)))) []))))) (
 Post (.bool false) []))))))))))))))))))) (
 Need ((-9223372036854775808) ≤ x10) (
 Need (x10 ≤ 9223372036854775807) (
 Need (0 ≤ x10) (
 Need (x10 ≤ (A18 0)) (
 Need ((-9223372036854775808) ≤ (x8 + 1)) (
 Need ((x8 + 1) ≤ 9223372036854775807) (
 ∃ post, Meets P 56 [.string ⟨(strD (updF A18 0 x10)).toArray⟩, .string ⟨#[35]⟩] [p0] post ∧
 ∀ x hs, post x hs → ∃ A19 : (Nat → Int), ∃ A20 : (Nat → Int), ∃ q1 : Bool, x = .tuple #[.string ⟨(strD A19).toArray⟩, .string ⟨(strD A20).toArray⟩, .bool q1] ∧ hs = [p0] ∧
 ∃ post, Meets P 62 [.string ⟨(strD A19).toArray⟩, .func (.func 63) #[] #[]] [p0] post ∧
 ∀ x hs, post x hs → ∃ v3 : V1, ∃ x11 : Int, ∃ A21 : (Nat → Int), x = v3.v ∧ hs = [p0, sliHP true 9 1 v3.v (Int.toNat x11) (tabL (Int.toNat x11) [colV 1 (fun j => .string ⟨(strD (at2F A21 j)).toArray⟩)])] ∧
 Need (0 ≤ x11) (
 Fork (x11 = 0) (
 Need ((-9223372036854775808) ≤ (x10 + 1)) (
 Need ((x10 + 1) ≤ 9223372036854775807) (
 Need (0 ≤ (x10 + 1)) (
 Need ((x10 + 1) ≤ (A18 0)) (
 ∃ x7' : Int, ∃ x8' : Int, ∃ x9' : Int, ∃ A18' : (Nat → Int), ∃ p6' : HP, p6' = p6 ∧ x7' = x7 ∧ x8' = (x8 + 1) ∧ x9' = x9 ∧ (A18' = (updF (shiftF A18 (Int.toNat (x10 + 1))) 0 ((A18 0) - (x10 + 1)))) ∧ I0x8 ⟨[], [], [x7', x8', x9'], [A18'], [], [p6'], []⟩ ∧ m0x8 ⟨[], [], [x7', x8', x9'], [A18'], [], [p6'], []⟩ < m0x8 ⟨[], [], [x7, x8, x9], [A18], [], [p6], []⟩))))) (
 ∃ post, Meets P 64 [v3.v] [p0, p6, sliHP true 9 1 v3.v (Int.toNat x11) (tabL (Int.toNat x11) [colV 1 (fun j => .string ⟨(strD (at2F A21 j)).toArray⟩)])] post ∧
 ∀ x hs, post x hs → ∃ x12 : Int, ∃ x13 : Int, ∃ x14 : Int, ∃ x15 : Int, ∃ x16 : Int, ∃ x17 : Int, ∃ x18 : Int, ∃ x19 : Int, ∃ x20 : Int, ∃ p7 : HP, x = .tuple #[.agg #[.int .u8 x12, .int .u8 x13, .int .u8 x14, .int .u8 x15, .int .u8 x16, .int .i64 x17, .int .u64 x18, (bslV x19)], .int .i64 x20] ∧ hs = [p0, p7, sliHP true 9 1 v3.v (Int.toNat x11) (tabL (Int.toNat x11) [colV 1 (fun j => .string ⟨(strD (at2F A21 j)).toArray⟩)])] ∧
 ∀ _ : Nat, Fork ((x20 = 0) ∧ (x9 = 1000)) (
 Need (0 ≤ x6) (
 Post (.bool (x7 == (iop .imin .i64 x6 (iop .imax .i64 x0 1)))) [])) (
 Fork (¬ (x20 = 0)) (
 Need (0 ≤ x6) (
 Post (.bool (x7 == (iop .imin .i64 x6 (iop .imax .i64 x0 1)))) [])) (
 Need ((-9223372036854775808) ≤ (x9 + 1)) (
 Need ((x9 + 1) ≤ 9223372036854775807) (
 ∀ _ : Nat, Need (0 ≤ x6) (
 Need ((x6 ≤ x7) ∨ (0 ≤ x7)) (
 Need ((x6 ≤ x7) ∨ (x7 < x6)) (
 Need ((x6 ≤ x7) ∨ (0 ≤ x7)) (
 Need ((x6 ≤ x7) ∨ (x7 < x6)) (
 Need (((x6 ≤ x7) ∨ (¬ ((x8 + 1) = (A17 (Int.toNat x7))))) ∨ (0 ≤ x7)) (
 Need (((x6 ≤ x7) ∨ (¬ ((x8 + 1) = (A17 (Int.toNat x7))))) ∨ (x7 < x6)) (
 Need (((x6 ≤ x7) ∨ (¬ ((x8 + 1) = (A17 (Int.toNat x7))))) ∨ (0 ≤ x7)) (
 Need (((x6 ≤ x7) ∨ (¬ ((x8 + 1) = (A17 (Int.toNat x7))))) ∨ (x7 < x6)) (
 Fork (¬ ((x6 ≤ x7) ∨ (¬ ((x8 + 1) = (A17 (Int.toNat x7)))))) (
 ∃ post, Meets P 12 [.agg #[.int .u8 x12, .int .u8 x13, .int .u8 x14, .int .u8 x15, .int .u8 x16, .int .i64 x17, .int .u64 x18, (bslV x19)], .agg #[.int .u8 (A9 (Int.toNat x7)), .int .u8 (A10 (Int.toNat x7)), .int .u8 (A11 (Int.toNat x7)), .int .u8 (A12 (Int.toNat x7)), .int .u8 (A13 (Int.toNat x7)), .int .i64 (A14 (Int.toNat x7)), .int .u64 (A15 (Int.toNat x7)), (bslV (A16 (Int.toNat x7)))]] [p7, p5] post ∧
 ∀ x hs, post x hs → ∃ q2 : Bool, x = .bool q2 ∧ hs = [p7, p5] ∧
 Fork (¬ (q2 = true)) (
 Post (.bool false) []) (
 Need ((-9223372036854775808) ≤ (x7 + 1)) (
 Need ((x7 + 1) ≤ 9223372036854775807) (
 Fork (x0 ≤ (x7 + 1)) (
 Post (.bool ((x7 + 1) == (iop .imin .i64 x6 (iop .imax .i64 x0 1)))) []) (
 Need ((-9223372036854775808) ≤ (x10 + 1)) (
 Need ((x10 + 1) ≤ 9223372036854775807) (
 Need (0 ≤ (x10 + 1)) (
 Need ((x10 + 1) ≤ (A18 0)) (
 ∃ x7' : Int, ∃ x8' : Int, ∃ x9' : Int, ∃ A18' : (Nat → Int), ∃ p6' : HP, p6' = p7 ∧ x7' = (x7 + 1) ∧ x8' = (x8 + 1) ∧ x9' = (x9 + 1) ∧ (A18' = (updF (shiftF A18 (Int.toNat (x10 + 1))) 0 ((A18 0) - (x10 + 1)))) ∧ I0x8 ⟨[], [], [x7', x8', x9'], [A18'], [], [p6'], []⟩ ∧ m0x8 ⟨[], [], [x7', x8', x9'], [A18'], [], [p6'], []⟩ < m0x8 ⟨[], [], [x7, x8, x9], [A18], [], [p6], []⟩))))))))) (
 Post (.bool false) []))))))))))))))))))))))))
def st_law (P : Program) (Post : Value → List HP → Prop) (x0 : Int) (A0 : Nat → Int) (p0 : HP) (p1 : HP) (p2 : HP) (p3 : HP) : Prop :=
 ∀ _ : Nat, ∀ _ : Nat, Need (0 ≤ (A0 0)) (
 Fork (10000 < (A0 0)) (
 Post (.bool true) []) (
 ∃ post, Meets P 8 [.string ⟨(strD A0).toArray⟩] [p0, p1] post ∧
 ∀ x hs, post x hs → ∃ v0 : V1, ∃ x1 : Int, ∃ x2 : Int, ∃ x3 : Int, ∃ A1 : (Nat → Int), ∃ A2 : (Nat → Int), ∃ A3 : (Nat → Int), ∃ A4 : (Nat → Int), ∃ A5 : (Nat → Int), ∃ A6 : (Nat → Int), ∃ A7 : (Nat → Int), ∃ A8 : (Nat → Int), ∃ p4 : HP, x = .tuple #[v0.v, .int .i64 x1, .int .i64 x2] ∧ hs = [p0, p4, sliHP true 39 8 v0.v (Int.toNat x3) (tabL (Int.toNat x3) [colI .u8 1 A1, colI .u8 1 A2, colI .u8 1 A3, colI .u8 1 A4, colI .u8 1 A5, colI .i64 1 A6, colI .u64 1 A7, colV 1 (fun j => bslV (A8 j))])] ∧
 ∃ post, Meets P 9 [.string ⟨(strD A0).toArray⟩] [p2] post ∧
 ∀ x hs, post x hs → ∃ v1 : V1, ∃ v2 : V1, ∃ x4 : Int, ∃ x5 : Int, ∃ x6 : Int, ∃ A9 : (Nat → Int), ∃ A10 : (Nat → Int), ∃ A11 : (Nat → Int), ∃ A12 : (Nat → Int), ∃ A13 : (Nat → Int), ∃ A14 : (Nat → Int), ∃ A15 : (Nat → Int), ∃ A16 : (Nat → Int), ∃ A17 : (Nat → Int), ∃ p5 : HP, x = .tuple #[v1.v, v2.v, .int .i64 x4, .int .i64 x5] ∧ hs = [p5, sliHP true 39 8 v1.v (Int.toNat x6) (tabL (Int.toNat x6) [colI .u8 1 A9, colI .u8 1 A10, colI .u8 1 A11, colI .u8 1 A12, colI .u8 1 A13, colI .i64 1 A14, colI .u64 1 A15, colV 1 (fun j => bslV (A16 j))]), sliHP true 3 1 v2.v (Int.toNat x6) (tabL (Int.toNat x6) [colI .i64 1 A17])] ∧
 ∀ _ : Nat, ∀ _ : Nat, Fork ((¬ ((¬ (x1 = x4)) ∨ (¬ (x2 = x5)))) ∧ (x2 = 0)) (
 ∃ post, Meets P 10 [v0.v, v1.v] [p4, p5, sliHP true 39 8 v0.v (Int.toNat x3) (tabL (Int.toNat x3) [colI .u8 1 A1, colI .u8 1 A2, colI .u8 1 A3, colI .u8 1 A4, colI .u8 1 A5, colI .i64 1 A6, colI .u64 1 A7, colV 1 (fun j => bslV (A8 j))]), sliHP true 39 8 v1.v (Int.toNat x6) (tabL (Int.toNat x6) [colI .u8 1 A9, colI .u8 1 A10, colI .u8 1 A11, colI .u8 1 A12, colI .u8 1 A13, colI .i64 1 A14, colI .u64 1 A15, colV 1 (fun j => bslV (A16 j))])] post ∧
 ∀ x hs, post x hs → ∃ q0 : Bool, x = .bool q0 ∧ hs = [p4, p5, sliHP true 39 8 v0.v (Int.toNat x3) (tabL (Int.toNat x3) [colI .u8 1 A1, colI .u8 1 A2, colI .u8 1 A3, colI .u8 1 A4, colI .u8 1 A5, colI .i64 1 A6, colI .u64 1 A7, colV 1 (fun j => bslV (A8 j))]), sliHP true 39 8 v1.v (Int.toNat x6) (tabL (Int.toNat x6) [colI .u8 1 A9, colI .u8 1 A10, colI .u8 1 A11, colI .u8 1 A12, colI .u8 1 A13, colI .i64 1 A14, colI .u64 1 A15, colV 1 (fun j => bslV (A16 j))])] ∧
 Need ((¬ ((¬ (((¬ (x1 = x4)) ∨ (¬ (x2 = x5))) ∨ ((x2 = 0) ∧ (¬ (q0 = true))))) ∧ (¬ (x2 = 0)))) ∨ (0 ≤ x3)) (
 Fork ((((¬ (x1 = x4)) ∨ (¬ (x2 = x5))) ∨ ((x2 = 0) ∧ (¬ (q0 = true)))) ∨ ((¬ (x2 = 0)) ∧ (¬ (x3 = 0)))) (
 Post (.bool false) []) (
 (st_loop P Post x0 x6 A0 A9 A10 A11 A12 A13 A14 A15 A16 A17 p0 p3 p5)))) (
 Need ((¬ ((¬ ((¬ (x1 = x4)) ∨ (¬ (x2 = x5)))) ∧ (¬ (x2 = 0)))) ∨ (0 ≤ x3)) (
 Fork (((¬ (x1 = x4)) ∨ (¬ (x2 = x5))) ∨ ((¬ (x2 = 0)) ∧ (¬ (x3 = 0)))) (
 Post (.bool false) []) (
 (st_loop P Post x0 x6 A0 A9 A10 A11 A12 A13 A14 A15 A16 A17 p0 p3 p5))))))
theorem vc_law (P : Program) (Post : Value → List HP → Prop) (x0 : Int) (A0 : Nat → Int) (p0 : HP) (p1 : HP) (p2 : HP) (p3 : HP) (L : Nat → LC) : VC P (fun v _ => Post v []) fm_law { iv := [x0], av := [A0], bo := [], bv := [], vv := [], pv := [p0, p1, p2, p3] } L = st_law P Post x0 A0 p0 p1 p2 p3 := by kernel_rfl
theorem run_law : runF cx 3 ([SV.strE (E.avar 0), SV.int (Go.IntKind.i64) (E.var 0)]) ([Ck.abs 0, Ck.abs 1, Ck.abs 2, Ck.abs 3]) ({ b := 0, v := 0, i := 1, a := 1, bo := 0, p := 4, r := 0 }) Tryz.f3 = fm_law := rfl
end Go.RX.Tr
