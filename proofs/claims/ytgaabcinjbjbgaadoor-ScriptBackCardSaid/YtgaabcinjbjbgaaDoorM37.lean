/- ScriptBack: what the law leaves to be shown; printed by a program of ours (wip/tools). · ScriptBack: what printing and comparing leave to be shown; printed by a program of ours (wip/tools). · Reading of a text, the document's side: what the function leaves to be shown (A); printed by a program of ours (wip/tools). -/
import Derived.Test.YtgaabcinjbjbgaaDoorM25
import Derived.Test.YtgaabcinjbjbgaaDoorM36
import Derived.Test.YtgaabcinjbjbgaaDoorM26

namespace Go.RX.Bj
open Go.RX Go.Proofs
noncomputable def cx : Ctx := { T := TT, FT := FT, loops := loops, calls := calls, callees := callees, pure := Tr.pure }
set_option maxRecDepth 100000
noncomputable def fm_lawB : F := runF cx 3 ([SV.vv 0, SV.strE (E.avar 7)]) ([Ck.abs 0, Ck.abs 1, Ck.abs 2, Ck.abs 3, Ck.abs 4, Ck.sli false 0 36 8 (E.var 0) [{ ck := CK.int (Go.IntKind.u8), w := 1, a := E.avar 0 }, { ck := CK.int (Go.IntKind.u8), w := 1, a := E.avar 1 }, { ck := CK.int (Go.IntKind.u8), w := 1, a := E.avar 2 }, { ck := CK.int (Go.IntKind.u8), w := 1, a := E.avar 3 }, { ck := CK.int (Go.IntKind.u8), w := 1, a := E.avar 4 }, { ck := CK.int (Go.IntKind.i64), w := 1, a := E.avar 5 }, { ck := CK.int (Go.IntKind.u64), w := 1, a := E.avar 6 }, { ck := CK.val 0, w := 1, a := E.lit 0 }]]) ({ b := 0, v := 1, i := 1, a := 8, bo := 0, p := 5, r := 0 }) Tryd.f3
def st_partB (P : Program) (Post : Value → List HP → Prop) (A7 : Nat → Int) (p0 p3 p4 : HP) : Prop :=
 ∃ post, Meets P 8 [.string ⟨(strD A7).toArray⟩] [p0, p3] post ∧
 ∀ x hs, post x hs → ∃ v2 : V1, ∃ x5 : Int, ∃ x6 : Int, ∃ x7 : Int, ∃ A17 : (Nat → Int), ∃ A18 : (Nat → Int), ∃ A19 : (Nat → Int), ∃ A20 : (Nat → Int), ∃ A21 : (Nat → Int), ∃ A22 : (Nat → Int), ∃ A23 : (Nat → Int), ∃ A24 : (Nat → Int), ∃ p6 : HP, x = .tuple #[v2.v, .int .i64 x5, .int .i64 x6] ∧ hs = [p0, p6, sliHP true 36 8 v2.v (Int.toNat x7) (tabL (Int.toNat x7) [colI .u8 1 A17, colI .u8 1 A18, colI .u8 1 A19, colI .u8 1 A20, colI .u8 1 A21, colI .i64 1 A22, colI .u64 1 A23, colV 1 (fun j => bslV (A24 j))])] ∧
 Fork (¬ (x6 = 0)) (
 Need (0 ≤ x7) (
 Post (.bool (x7 == 0)) [])) (
 ∀ b10 : Nat, ∃ post, Meets P 6 [.func (.func 16) #[] #[.pointer (some ⟨b10, 0, none⟩)]] [p0, p6, rowHP b10 true ([v2.v]), sliHP true 36 8 v2.v (Int.toNat x7) (tabL (Int.toNat x7) [colI .u8 1 A17, colI .u8 1 A18, colI .u8 1 A19, colI .u8 1 A20, colI .u8 1 A21, colI .i64 1 A22, colI .u64 1 A23, colV 1 (fun j => bslV (A24 j))])] post ∧
 ∀ x hs, post x hs → ∃ x8 : Int, ∃ A25 : (Nat → Int), x = .tuple #[.string ⟨(strD A25).toArray⟩, .int .i64 x8] ∧ hs = [p0, p6, rowHP b10 true ([v2.v]), sliHP true 36 8 v2.v (Int.toNat x7) (tabL (Int.toNat x7) [colI .u8 1 A17, colI .u8 1 A18, colI .u8 1 A19, colI .u8 1 A20, colI .u8 1 A21, colI .i64 1 A22, colI .u64 1 A23, colV 1 (fun j => bslV (A24 j))])] ∧
 ∃ post, Meets P 8 [.string ⟨(strD A25).toArray⟩] [p0, p4] post ∧
 ∀ x hs, post x hs → ∃ v3 : V1, ∃ x9 : Int, ∃ x10 : Int, ∃ x11 : Int, ∃ A26 : (Nat → Int), ∃ A27 : (Nat → Int), ∃ A28 : (Nat → Int), ∃ A29 : (Nat → Int), ∃ A30 : (Nat → Int), ∃ A31 : (Nat → Int), ∃ A32 : (Nat → Int), ∃ A33 : (Nat → Int), ∃ p7 : HP, x = .tuple #[v3.v, .int .i64 x9, .int .i64 x10] ∧ hs = [p0, p7, sliHP true 36 8 v3.v (Int.toNat x11) (tabL (Int.toNat x11) [colI .u8 1 A26, colI .u8 1 A27, colI .u8 1 A28, colI .u8 1 A29, colI .u8 1 A30, colI .i64 1 A31, colI .u64 1 A32, colV 1 (fun j => bslV (A33 j))])] ∧
 Fork ((x8 = 0) ∧ (x10 = 0)) (
 ∃ post, Meets P 9 [v3.v, v2.v] [p7, p6, sliHP true 36 8 v3.v (Int.toNat x11) (tabL (Int.toNat x11) [colI .u8 1 A26, colI .u8 1 A27, colI .u8 1 A28, colI .u8 1 A29, colI .u8 1 A30, colI .i64 1 A31, colI .u64 1 A32, colV 1 (fun j => bslV (A33 j))]), sliHP true 36 8 v2.v (Int.toNat x7) (tabL (Int.toNat x7) [colI .u8 1 A17, colI .u8 1 A18, colI .u8 1 A19, colI .u8 1 A20, colI .u8 1 A21, colI .i64 1 A22, colI .u64 1 A23, colV 1 (fun j => bslV (A24 j))])] post ∧
 ∀ x hs, post x hs → ∃ q2 : Bool, x = .bool q2 ∧ hs = [p7, p6, sliHP true 36 8 v3.v (Int.toNat x11) (tabL (Int.toNat x11) [colI .u8 1 A26, colI .u8 1 A27, colI .u8 1 A28, colI .u8 1 A29, colI .u8 1 A30, colI .i64 1 A31, colI .u64 1 A32, colV 1 (fun j => bslV (A33 j))]), sliHP true 36 8 v2.v (Int.toNat x7) (tabL (Int.toNat x7) [colI .u8 1 A17, colI .u8 1 A18, colI .u8 1 A19, colI .u8 1 A20, colI .u8 1 A21, colI .i64 1 A22, colI .u64 1 A23, colV 1 (fun j => bslV (A24 j))])] ∧
 Post (.bool q2) []) (
 Post (.bool false) []))
def st_loopB (P : Program) (Post : Value → List HP → Prop) (x0 : Int) (A0 A1 A2 A3 A4 A5 A6 A7 A8 : Nat → Int) (V0 : Nat → V1) (p0 p2 p3 p4 : HP) : Prop :=
 ∃ (I0x10 : Ext → Prop) (m0x10 : Ext → Nat), (∃ x5 : Int, ∃ x6 : Int, ∃ x7 : Int, ∃ A17 : (Nat → Int), ∃ p6 : HP, p6 = p2 ∧ x5 = 0 ∧ x6 = 0 ∧ x7 = 0 ∧ (A17 = (catF (catF (rowLF [11, 35, 32, 97, 32, 114, 101, 109, 97, 114, 107, 10]) A8) (rowLF [15, 32, 32, 35, 32, 97, 110, 100, 32, 97, 110, 111, 116, 104, 101, 114]))) ∧ I0x10 ⟨[], [], [x5, x6, x7], [A17], [], [p6], []⟩) ∧
 ∀ x5 : Int, ∀ x6 : Int, ∀ x7 : Int, ∀ A17 : (Nat → Int), ∀ p6 : HP, I0x10 ⟨[], [], [x5, x6, x7], [A17], [], [p6], []⟩ →
 ∃ post, Meets P 48 [.string ⟨(strD A17).toArray⟩, .string ⟨#[10]⟩] [] post ∧
 ∀ x hs, post x hs → ∃ x8 : Int, x = .int .i64 x8 ∧ hs = [] ∧
 Fork (x8 < 0) (
 Need ((-9223372036854775808) ≤ (x6 + 1)) (
 Need ((x6 + 1) ≤ 9223372036854775807) (
 ∃ post, Meets P 28 [.string ⟨(strD A17).toArray⟩, .string ⟨#[35]⟩] [p0] post ∧
 ∀ x hs, post x hs → ∃ A18 : (Nat → Int), ∃ A19 : (Nat → Int), ∃ q2 : Bool, x = .tuple #[.string ⟨(strD A18).toArray⟩, .string ⟨(strD A19).toArray⟩, .bool q2] ∧ hs = [p0] ∧
 ∃ post, Meets P 29 [.string ⟨(strD A18).toArray⟩, .func (.func 30) #[] #[]] [p0] post ∧
 ∀ x hs, post x hs → ∃ v2 : V1, ∃ x9 : Int, ∃ A20 : (Nat → Int), x = v2.v ∧ hs = [p0, sliHP true 9 1 v2.v (Int.toNat x9) (tabL (Int.toNat x9) [colV 1 (fun j => .string ⟨(strD (at2F A20 j)).toArray⟩)])] ∧
 Need (0 ≤ x9) (
 Fork (x9 = 0) (
 Need (0 ≤ x0) (
 Need ((x5 = x0) ∨ (0 ≤ (A8 0))) (
 Fork ((¬ (x5 = x0)) ∧ ((A8 0) < 262044)) (
 Post (.bool false) []) (
 (st_partB P Post A7 p0 p3 p4))))) (
 ∃ post, Meets P 31 [v2.v] [p0, p6, sliHP true 9 1 v2.v (Int.toNat x9) (tabL (Int.toNat x9) [colV 1 (fun j => .string ⟨(strD (at2F A20 j)).toArray⟩)])] post ∧
 ∀ x hs, post x hs → ∃ x10 : Int, ∃ x11 : Int, ∃ x12 : Int, ∃ x13 : Int, ∃ x14 : Int, ∃ x15 : Int, ∃ x16 : Int, ∃ x17 : Int, ∃ x18 : Int, ∃ p7 : HP, x = .tuple #[.agg #[.int .u8 x10, .int .u8 x11, .int .u8 x12, .int .u8 x13, .int .u8 x14, .int .i64 x15, .int .u64 x16, (bslV x17)], .int .i64 x18] ∧ hs = [p0, p7, sliHP true 9 1 v2.v (Int.toNat x9) (tabL (Int.toNat x9) [colV 1 (fun j => .string ⟨(strD (at2F A20 j)).toArray⟩)])] ∧
 ∀ _ : Nat, Fork ((x18 = 0) ∧ (x7 = 1000)) (
 Need (0 ≤ x0) (
 Need ((x5 = x0) ∨ (0 ≤ (A8 0))) (
 Fork ((¬ (x5 = x0)) ∧ ((A8 0) < 262044)) (
 Post (.bool false) []) (
 (st_partB P Post A7 p0 p3 p4))))) (
 Fork (¬ (x18 = 0)) (
 Need (0 ≤ x0) (
 Need ((x5 = x0) ∨ (0 ≤ (A8 0))) (
 Fork ((¬ (x5 = x0)) ∧ ((A8 0) < 262044)) (
 Post (.bool false) []) (
 (st_partB P Post A7 p0 p3 p4))))) (
 Need ((-9223372036854775808) ≤ (x7 + 1)) (
 Need ((x7 + 1) ≤ 9223372036854775807) (
 ∀ _ : Nat, Need (0 ≤ x0) (
 Need ((x0 ≤ x5) ∨ ((-9223372036854775808) ≤ (x5 + 2))) (
 Need ((x0 ≤ x5) ∨ ((x5 + 2) ≤ 9223372036854775807)) (
 Need (((x0 ≤ x5) ∨ (¬ ((x6 + 1) = (x5 + 2)))) ∨ (0 ≤ x5)) (
 Need (((x0 ≤ x5) ∨ (¬ ((x6 + 1) = (x5 + 2)))) ∨ (x5 < x0)) (
 Need (((x0 ≤ x5) ∨ (¬ ((x6 + 1) = (x5 + 2)))) ∨ (0 ≤ x5)) (
 Need (((x0 ≤ x5) ∨ (¬ ((x6 + 1) = (x5 + 2)))) ∨ (x5 < x0)) (
 Fork (¬ ((x0 ≤ x5) ∨ (¬ ((x6 + 1) = (x5 + 2))))) (
 ∃ post, Meets P 11 [.agg #[.int .u8 x10, .int .u8 x11, .int .u8 x12, .int .u8 x13, .int .u8 x14, .int .i64 x15, .int .u64 x16, (bslV x17)], .agg #[.int .u8 (A0 (Int.toNat x5)), .int .u8 (A1 (Int.toNat x5)), .int .u8 (A2 (Int.toNat x5)), .int .u8 (A3 (Int.toNat x5)), .int .u8 (A4 (Int.toNat x5)), .int .i64 (A5 (Int.toNat x5)), .int .u64 (A6 (Int.toNat x5)), (V0 (Int.toNat x5)).v]] [p7, p0] post ∧
 ∀ x hs, post x hs → ∃ q3 : Bool, x = .bool q3 ∧ hs = [p7, p0] ∧
 Fork (¬ (q3 = true)) (
 Post (.bool false) []) (
 Need ((-9223372036854775808) ≤ (x5 + 1)) (
 Need ((x5 + 1) ≤ 9223372036854775807) (
 Need (((x5 + 1) = x0) ∨ (0 ≤ (A8 0))) (
 Fork ((¬ ((x5 + 1) = x0)) ∧ ((A8 0) < 262044)) (
 Post (.bool false) []) (
 (st_partB P Post A7 p0 p3 p4))))))) (
 Post (.bool false) []))))))))))))))))) (
 Need ((-9223372036854775808) ≤ x8) (
 Need (x8 ≤ 9223372036854775807) (
 Need (0 ≤ x8) (
 Need (x8 ≤ (A17 0)) (
 Need ((-9223372036854775808) ≤ (x6 + 1)) (
 Need ((x6 + 1) ≤ 9223372036854775807) (
 ∃ post, Meets P 28 [.string ⟨(strD (updF A17 0 x8)).toArray⟩, .string ⟨#[35]⟩] [p0] post ∧
 ∀ x hs, post x hs → ∃ A18 : (Nat → Int), ∃ A19 : (Nat → Int), ∃ q2 : Bool, x = .tuple #[.string ⟨(strD A18).toArray⟩, .string ⟨(strD A19).toArray⟩, .bool q2] ∧ hs = [p0] ∧
 ∃ post, Meets P 29 [.string ⟨(strD A18).toArray⟩, .func (.func 30) #[] #[]] [p0] post ∧
 ∀ x hs, post x hs → ∃ v2 : V1, ∃ x9 : Int, ∃ A20 : (Nat → Int), x = v2.v ∧ hs = [p0, sliHP true 9 1 v2.v (Int.toNat x9) (tabL (Int.toNat x9) [colV 1 (fun j => .string ⟨(strD (at2F A20 j)).toArray⟩)])] ∧
 Need (0 ≤ x9) (
 Fork (x9 = 0) (
 Need ((-9223372036854775808) ≤ (x8 + 1)) (
 Need ((x8 + 1) ≤ 9223372036854775807) (
 Need (0 ≤ (x8 + 1)) (
 Need ((x8 + 1) ≤ (A17 0)) (
 ∃ x5' : Int, ∃ x6' : Int, ∃ x7' : Int, ∃ A17' : (Nat → Int), ∃ p6' : HP, p6' = p6 ∧ x5' = x5 ∧ x6' = (x6 + 1) ∧ x7' = x7 ∧ (A17' = (updF (shiftF A17 (Int.toNat (x8 + 1))) 0 ((A17 0) - (x8 + 1)))) ∧ I0x10 ⟨[], [], [x5', x6', x7'], [A17'], [], [p6'], []⟩ ∧ m0x10 ⟨[], [], [x5', x6', x7'], [A17'], [], [p6'], []⟩ < m0x10 ⟨[], [], [x5, x6, x7], [A17], [], [p6], []⟩))))) (
 ∃ post, Meets P 31 [v2.v] [p0, p6, sliHP true 9 1 v2.v (Int.toNat x9) (tabL (Int.toNat x9) [colV 1 (fun j => .string ⟨(strD (at2F A20 j)).toArray⟩)])] post ∧
 ∀ x hs, post x hs → ∃ x10 : Int, ∃ x11 : Int, ∃ x12 : Int, ∃ x13 : Int, ∃ x14 : Int, ∃ x15 : Int, ∃ x16 : Int, ∃ x17 : Int, ∃ x18 : Int, ∃ p7 : HP, x = .tuple #[.agg #[.int .u8 x10, .int .u8 x11, .int .u8 x12, .int .u8 x13, .int .u8 x14, .int .i64 x15, .int .u64 x16, (bslV x17)], .int .i64 x18] ∧ hs = [p0, p7, sliHP true 9 1 v2.v (Int.toNat x9) (tabL (Int.toNat x9) [colV 1 (fun j => .string ⟨(strD (at2F A20 j)).toArray⟩)])] ∧
 ∀ _ : Nat, Fork ((x18 = 0) ∧ (x7 = 1000)) (
 Need (0 ≤ x0) (
 Need ((x5 = x0) ∨ (0 ≤ (A8 0))) (
 Fork ((¬ (x5 = x0)) ∧ ((A8 0) < 262044)) (
 Post (.bool false) []) (
 (st_partB P Post A7 p0 p3 p4))))) (
 Fork (¬ (x18 = 0)) (
 Need (0 ≤ x0) (
 Need ((x5 = x0) ∨ (0 ≤ (A8 0))) (
 Fork ((¬ (x5 = x0)) ∧ ((A8 0) < 262044)) (
 Post (.bool false) []) (
 (st_partB P Post A7 p0 p3 p4))))) (
 Need ((-9223372036854775808) ≤ (x7 + 1)) (
 Need ((x7 + 1) ≤ 9223372036854775807) (
 ∀ _ : Nat, Need (0 ≤ x0) (
 Need ((x0 ≤ x5) ∨ ((-9223372036854775808) ≤ (x5 + 2))) (
 Need ((x0 ≤ x5) ∨ ((x5 + 2) ≤ 9223372036854775807)) (
 Need (((x0 ≤ x5) ∨ (¬ ((x6 + 1) = (x5 + 2)))) ∨ (0 ≤ x5)) (
 Need (((x0 ≤ x5) ∨ (¬ ((x6 + 1) = (x5 + 2)))) ∨ (x5 < x0)) (
 Need (((x0 ≤ x5) ∨ (¬ ((x6 + 1) = (x5 + 2)))) ∨ (0 ≤ x5)) (
 Need (((x0 ≤ x5) ∨ (¬ ((x6 + 1) = (x5 + 2)))) ∨ (x5 < x0)) (
 Fork (¬ ((x0 ≤ x5) ∨ (¬ ((x6 + 1) = (x5 + 2))))) (
 ∃ post, Meets P 11 [.agg #[.int .u8 x10, .int .u8 x11, .int .u8 x12, .int .u8 x13, .int .u8 x14, .int .i64 x15, .int .u64 x16, (bslV x17)], .agg #[.int .u8 (A0 (Int.toNat x5)), .int .u8 (A1 (Int.toNat x5)), .int .u8 (A2 (Int.toNat x5)), .int .u8 (A3 (Int.toNat x5)), .int .u8 (A4 (Int.toNat x5)), .int .i64 (A5 (Int.toNat x5)), .int .u64 (A6 (Int.toNat x5)), (V0 (Int.toNat x5)).v]] [p7, p0] post ∧
 ∀ x hs, post x hs → ∃ q3 : Bool, x = .bool q3 ∧ hs = [p7, p0] ∧
 Fork (¬ (q3 = true)) (
 Post (.bool false) []) (
 Need ((-9223372036854775808) ≤ (x5 + 1)) (
 Need ((x5 + 1) ≤ 9223372036854775807) (
 Need ((-9223372036854775808) ≤ (x8 + 1)) (
 Need ((x8 + 1) ≤ 9223372036854775807) (
 Need (0 ≤ (x8 + 1)) (
 Need ((x8 + 1) ≤ (A17 0)) (
 ∃ x5' : Int, ∃ x6' : Int, ∃ x7' : Int, ∃ A17' : (Nat → Int), ∃ p6' : HP, p6' = p7 ∧ x5' = (x5 + 1) ∧ x6' = (x6 + 1) ∧ x7' = (x7 + 1) ∧ (A17' = (updF (shiftF A17 (Int.toNat (x8 + 1))) 0 ((A17 0) - (x8 + 1)))) ∧ I0x10 ⟨[], [], [x5', x6', x7'], [A17'], [], [p6'], []⟩ ∧ m0x10 ⟨[], [], [x5', x6', x7'], [A17'], [], [p6'], []⟩ < m0x10 ⟨[], [], [x5, x6, x7], [A17], [], [p6], []⟩)))))))) (
 Post (.bool false) [])))))))))))))))))))))
def st_lawB (P : Program) (Post : Value → List HP → Prop) (x0 : Int) (A0 : Nat → Int) (A1 : Nat → Int) (A2 : Nat → Int) (A3 : Nat → Int) (A4 : Nat → Int) (A5 : Nat → Int) (A6 : Nat → Int) (A7 : Nat → Int) (v0 : V1) (V0 : Nat → V1) (p0 : HP) (p1 : HP) (p2 : HP) (p3 : HP) (p4 : HP) : Prop :=
 ∀ _ : Nat, ∀ _ : Nat, ∃ post, Meets P 5 [v0.v] [p0, sliHP false 36 8 v0.v (Int.toNat x0) (tabL (Int.toNat x0) [colI .u8 1 A0, colI .u8 1 A1, colI .u8 1 A2, colI .u8 1 A3, colI .u8 1 A4, colI .i64 1 A5, colI .u64 1 A6, colV 1 (fun j => (V0 j).v)])] post ∧
 ∀ x hs, post x hs → ∃ q0 : Bool, x = .bool q0 ∧ hs = [p0, sliHP false 36 8 v0.v (Int.toNat x0) (tabL (Int.toNat x0) [colI .u8 1 A0, colI .u8 1 A1, colI .u8 1 A2, colI .u8 1 A3, colI .u8 1 A4, colI .i64 1 A5, colI .u64 1 A6, colV 1 (fun j => (V0 j).v)])] ∧
 Need ((q0 = true) ∨ (0 ≤ (A7 0))) (
 Fork ((q0 = true) ∨ (10000 < (A7 0))) (
 Post (.bool true) []) (
 ∀ b2 : Nat, ∃ post, Meets P 6 [.func (.func 16) #[] #[.pointer (some ⟨b2, 0, none⟩)]] [p0, rowHP b2 true ([v0.v]), sliHP false 36 8 v0.v (Int.toNat x0) (tabL (Int.toNat x0) [colI .u8 1 A0, colI .u8 1 A1, colI .u8 1 A2, colI .u8 1 A3, colI .u8 1 A4, colI .i64 1 A5, colI .u64 1 A6, colV 1 (fun j => (V0 j).v)])] post ∧
 ∀ x hs, post x hs → ∃ x1 : Int, ∃ A8 : (Nat → Int), x = .tuple #[.string ⟨(strD A8).toArray⟩, .int .i64 x1] ∧ hs = [p0, rowHP b2 true ([v0.v]), sliHP false 36 8 v0.v (Int.toNat x0) (tabL (Int.toNat x0) [colI .u8 1 A0, colI .u8 1 A1, colI .u8 1 A2, colI .u8 1 A3, colI .u8 1 A4, colI .i64 1 A5, colI .u64 1 A6, colV 1 (fun j => (V0 j).v)])] ∧
 Fork (x1 = 0) (
 ∃ post, Meets P 8 [.string ⟨(strD A8).toArray⟩] [p0, p1] post ∧
 ∀ x hs, post x hs → ∃ v1 : V1, ∃ x2 : Int, ∃ x3 : Int, ∃ x4 : Int, ∃ A9 : (Nat → Int), ∃ A10 : (Nat → Int), ∃ A11 : (Nat → Int), ∃ A12 : (Nat → Int), ∃ A13 : (Nat → Int), ∃ A14 : (Nat → Int), ∃ A15 : (Nat → Int), ∃ A16 : (Nat → Int), ∃ p5 : HP, x = .tuple #[v1.v, .int .i64 x2, .int .i64 x3] ∧ hs = [p0, p5, sliHP true 36 8 v1.v (Int.toNat x4) (tabL (Int.toNat x4) [colI .u8 1 A9, colI .u8 1 A10, colI .u8 1 A11, colI .u8 1 A12, colI .u8 1 A13, colI .i64 1 A14, colI .u64 1 A15, colV 1 (fun j => bslV (A16 j))])] ∧
 Fork (¬ ((¬ (x2 = 0)) ∨ (¬ (x3 = 0)))) (
 ∃ post, Meets P 9 [v1.v, v0.v] [p5, p0, sliHP true 36 8 v1.v (Int.toNat x4) (tabL (Int.toNat x4) [colI .u8 1 A9, colI .u8 1 A10, colI .u8 1 A11, colI .u8 1 A12, colI .u8 1 A13, colI .i64 1 A14, colI .u64 1 A15, colV 1 (fun j => bslV (A16 j))]), sliHP false 36 8 v0.v (Int.toNat x0) (tabL (Int.toNat x0) [colI .u8 1 A0, colI .u8 1 A1, colI .u8 1 A2, colI .u8 1 A3, colI .u8 1 A4, colI .i64 1 A5, colI .u64 1 A6, colV 1 (fun j => (V0 j).v)])] post ∧
 ∀ x hs, post x hs → ∃ q1 : Bool, x = .bool q1 ∧ hs = [p5, p0, sliHP true 36 8 v1.v (Int.toNat x4) (tabL (Int.toNat x4) [colI .u8 1 A9, colI .u8 1 A10, colI .u8 1 A11, colI .u8 1 A12, colI .u8 1 A13, colI .i64 1 A14, colI .u64 1 A15, colV 1 (fun j => bslV (A16 j))]), sliHP false 36 8 v0.v (Int.toNat x0) (tabL (Int.toNat x0) [colI .u8 1 A0, colI .u8 1 A1, colI .u8 1 A2, colI .u8 1 A3, colI .u8 1 A4, colI .i64 1 A5, colI .u64 1 A6, colV 1 (fun j => (V0 j).v)])] ∧
 Fork (¬ (q1 = true)) (
 Post (.bool false) []) (
 ∀ _ : Nat, Need (0 ≤ (A8 0)) (
 Need ((11 + (A8 0)) ≤ 9223372036854775807) (
 Need (0 ≤ (11 + (A8 0))) (
 Need (((11 + (A8 0)) + 15) ≤ 9223372036854775807) (
 ∀ _ : Nat, ∀ (_ _ : Nat) (_ : Loop), ∀ _ : Nat, ∀ _ : Nat, ∀ _ : Nat, Need (0 ≤ ((11 + (A8 0)) + 15)) (
 Fork (262144 < ((11 + (A8 0)) + 15)) (
 Need (0 ≤ x0) (
 Need ((0 = x0) ∨ (0 ≤ (A8 0))) (
 Fork ((¬ (0 = x0)) ∧ ((A8 0) < 262044)) (
 Post (.bool false) []) (
 (st_partB P Post A7 p0 p3 p4))))) (
 ∀ _ : Nat, ∀ _ : Nat, ∀ _ : Nat, ∀ _ : Nat, ∀ _ : Nat, ∀ (_ _ : Nat) (_ : Loop), (st_loopB P Post x0 A0 A1 A2 A3 A4 A5 A6 A7 A8 V0 p0 p2 p3 p4))))))))) (
 Post (.bool false) [])) (
 (st_partB P Post A7 p0 p3 p4))))
theorem vc_lawB (P : Program) (Post : Value → List HP → Prop) (x0 : Int) (A0 : Nat → Int) (A1 : Nat → Int) (A2 : Nat → Int) (A3 : Nat → Int) (A4 : Nat → Int) (A5 : Nat → Int) (A6 : Nat → Int) (A7 : Nat → Int) (v0 : V1) (V0 : Nat → V1) (p0 : HP) (p1 : HP) (p2 : HP) (p3 : HP) (p4 : HP) (L : Nat → LC) : VC P (fun v _ => Post v []) fm_lawB { iv := [x0], av := [A0, A1, A2, A3, A4, A5, A6, A7], bo := [], bv := [], vv := [v0], va := [V0], pv := [p0, p1, p2, p3, p4] } L = st_lawB P Post x0 A0 A1 A2 A3 A4 A5 A6 A7 v0 V0 p0 p1 p2 p3 p4 := by kernel_rfl
theorem run_lawB : runF cx 3 ([SV.vv 0, SV.strE (E.avar 7)]) ([Ck.abs 0, Ck.abs 1, Ck.abs 2, Ck.abs 3, Ck.abs 4, Ck.sli false 0 36 8 (E.var 0) [{ ck := CK.int (Go.IntKind.u8), w := 1, a := E.avar 0 }, { ck := CK.int (Go.IntKind.u8), w := 1, a := E.avar 1 }, { ck := CK.int (Go.IntKind.u8), w := 1, a := E.avar 2 }, { ck := CK.int (Go.IntKind.u8), w := 1, a := E.avar 3 }, { ck := CK.int (Go.IntKind.u8), w := 1, a := E.avar 4 }, { ck := CK.int (Go.IntKind.i64), w := 1, a := E.avar 5 }, { ck := CK.int (Go.IntKind.u64), w := 1, a := E.avar 6 }, { ck := CK.val 0, w := 1, a := E.lit 0 }]]) ({ b := 0, v := 1, i := 1, a := 8, bo := 0, p := 5, r := 0 }) Tryd.f3 = fm_lawB := rfl
end Go.RX.Bj

namespace Go.RX.Bk
open Go.RX Go.Proofs
noncomputable def cxM : Ctx := { T := TT, FT := FT, loops := loopsM, calls := callsM, pure := Sc.pure }
noncomputable def cxK : Ctx := { T := TT, FT := FT, loops := loopsM, calls := callsK, pure := Sc.pure }
noncomputable def cxR : Ctx := { T := TT, FT := FT, loops := Sy.loops, callees := calleesR }
set_option maxRecDepth 100000
noncomputable def fm_printM : F := runF cxM 6 ([SV.fn 16 [SV.ptr 0 0]]) ([Ck.abs 0, Ck.row 0 true [SV.vv 0], Ck.sli false 0 36 8 (E.var 0) [{ ck := CK.int (Go.IntKind.u8), w := 1, a := E.avar 0 }, { ck := CK.int (Go.IntKind.u8), w := 1, a := E.avar 1 }, { ck := CK.int (Go.IntKind.u8), w := 1, a := E.avar 2 }, { ck := CK.int (Go.IntKind.u8), w := 1, a := E.avar 3 }, { ck := CK.int (Go.IntKind.u8), w := 1, a := E.avar 4 }, { ck := CK.int (Go.IntKind.i64), w := 1, a := E.avar 5 }, { ck := CK.int (Go.IntKind.u64), w := 1, a := E.avar 6 }, { ck := CK.val 0, w := 1, a := E.lit 0 }]]) ({ b := 1, v := 1, i := 1, a := 7, bo := 0, p := 1, r := 0 }) Tryd.f6
def st_printM (P : Program) (Post : Value → List HP → Prop) (x0 : Int) (A0 : Nat → Int) (A1 : Nat → Int) (A2 : Nat → Int) (A3 : Nat → Int) (A4 : Nat → Int) (A5 : Nat → Int) (A6 : Nat → Int) (v0 : V1) (V0 : Nat → V1) (b0 : Nat) (p0 : HP) : Prop :=
 ∀ _ : Nat, ∀ _ : Nat, ∀ b3 : Nat, ∀ _ : Nat, ∀ (_ _ : Nat) (_ : Loop), Need (0 ≤ x0) (
 ∃ (I0x0 : Ext → Prop) (m0x0 : Ext → Nat), (∃ x1 : Int, ∃ x2 : Int, ∃ x3 : Int, ∃ A7 : (Nat → Int), x1 = 0 ∧ x3 = 0 ∧ (∀ j, j < (Int.toNat x3) → A7 j = (fun _ => 0) j) ∧ x2 = 0 ∧ I0x0 ⟨[], [], [x1, x2, x3], [A7], [], [], []⟩) ∧
 ∀ x1 : Int, ∀ x2 : Int, ∀ x3 : Int, ∀ A7 : (Nat → Int), I0x0 ⟨[], [], [x1, x2, x3], [A7], [], [], []⟩ →
 Fork (x1 < x0) (
 Need (0 ≤ x1) (
 ∀ _ : Nat, ∀ _ : Nat, Need ((-9223372036854775808) ≤ (x2 + 1)) (
 Need ((x2 + 1) ≤ 9223372036854775807) (
 Fork (1000 < (x2 + 1)) (
 Post (.tuple #[.string ⟨#[]⟩, .int .i64 3]) [p0, rowHP b0 true ([v0.v]), sliHP false 36 8 v0.v (Int.toNat x0) (tabL (Int.toNat x0) [colI .u8 1 A0, colI .u8 1 A1, colI .u8 1 A2, colI .u8 1 A3, colI .u8 1 A4, colI .i64 1 A5, colI .u64 1 A6, colV 1 (fun j => (V0 j).v)])]) (
 ∃ post, Meets P 12 [.agg #[.int .u8 (A0 (Int.toNat x1)), .int .u8 (A1 (Int.toNat x1)), .int .u8 (A2 (Int.toNat x1)), .int .u8 (A3 (Int.toNat x1)), .int .u8 (A4 (Int.toNat x1)), .int .i64 (A5 (Int.toNat x1)), .int .u64 (A6 (Int.toNat x1)), (V0 (Int.toNat x1)).v]] [p0] post ∧
 ∀ x hs, post x hs → ∃ A8 : (Nat → Int), ∃ q0 : Bool, x = .tuple #[.string ⟨(strD A8).toArray⟩, .bool q0] ∧ hs = [p0] ∧
 Fork (¬ (q0 = true)) (
 Post (.tuple #[.string ⟨#[]⟩, .int .i64 2]) [p0, rowHP b0 true ([v0.v]), sliHP false 36 8 v0.v (Int.toNat x0) (tabL (Int.toNat x0) [colI .u8 1 A0, colI .u8 1 A1, colI .u8 1 A2, colI .u8 1 A3, colI .u8 1 A4, colI .i64 1 A5, colI .u64 1 A6, colV 1 (fun j => (V0 j).v)])]) (
 Need (0 ≤ (A8 0)) (
 Need (((A8 0) + 1) ≤ 9223372036854775807) (
 Need (0 ≤ x3) (
 Need (0 ≤ ((A8 0) + 1)) (
 Need ((x3 + ((A8 0) + 1)) ≤ 140737488355328) (
 Need (0 ≤ (x3 + ((A8 0) + 1))) (
 Fork (262144 < (x3 + ((A8 0) + 1))) (
 Post (.tuple #[.string ⟨#[]⟩, .int .i64 3]) [p0, rowHP b0 true ([v0.v]), sliHP false 36 8 v0.v (Int.toNat x0) (tabL (Int.toNat x0) [colI .u8 1 A0, colI .u8 1 A1, colI .u8 1 A2, colI .u8 1 A3, colI .u8 1 A4, colI .i64 1 A5, colI .u64 1 A6, colV 1 (fun j => (V0 j).v)])]) (
 Need ((-9223372036854775808) ≤ (x1 + 1)) (
 Need ((x1 + 1) ≤ 9223372036854775807) (
 ∃ x1' : Int, ∃ x2' : Int, ∃ x3' : Int, ∃ A7' : (Nat → Int), x1' = (x1 + 1) ∧ x3' = (x3 + ((A8 0) + 1)) ∧ (∀ j, j < (Int.toNat x3') → A7' j = (splF A7 (Int.toNat x3) (Int.toNat ((A8 0) + 1)) (sbyF (catF A8 (rowLF [1, 10])))) j) ∧ x2' = (x2 + 1) ∧ I0x0 ⟨[], [], [x1', x2', x3'], [A7'], [], [], []⟩ ∧ m0x0 ⟨[], [], [x1', x2', x3'], [A7'], [], [], []⟩ < m0x0 ⟨[], [], [x1, x2, x3], [A7], [], [], []⟩))))))))))))))) (
 ∃ post, Meets P 15 [.pointer (some ⟨b3, 0, none⟩)] [bldHP b3 47 5 (segCells .u8 (Int.toNat x3) A7)] post ∧
 ∀ x hs, post x hs → ∃ A8 : (Nat → Int), x = .string ⟨(strD A8).toArray⟩ ∧ hs = [] ∧
 Post (.tuple #[.string ⟨(strD A8).toArray⟩, .int .i64 0]) [p0, rowHP b0 true ([v0.v]), sliHP false 36 8 v0.v (Int.toNat x0) (tabL (Int.toNat x0) [colI .u8 1 A0, colI .u8 1 A1, colI .u8 1 A2, colI .u8 1 A3, colI .u8 1 A4, colI .i64 1 A5, colI .u64 1 A6, colV 1 (fun j => (V0 j).v)])]))
theorem vc_printM (P : Program) (Post : Value → List HP → Prop) (x0 : Int) (A0 : Nat → Int) (A1 : Nat → Int) (A2 : Nat → Int) (A3 : Nat → Int) (A4 : Nat → Int) (A5 : Nat → Int) (A6 : Nat → Int) (v0 : V1) (V0 : Nat → V1) (b0 : Nat) (p0 : HP) (L : Nat → LC) : VC P (fun v hs => Post v (hs.take 3)) fm_printM { iv := [x0], av := [A0, A1, A2, A3, A4, A5, A6], bo := [], bv := [b0], vv := [v0], va := [V0], pv := [p0] } L = st_printM P Post x0 A0 A1 A2 A3 A4 A5 A6 v0 V0 b0 p0 := by kernel_rfl
theorem run_printM : runF cxM 6 ([SV.fn 16 [SV.ptr 0 0]]) ([Ck.abs 0, Ck.row 0 true [SV.vv 0], Ck.sli false 0 36 8 (E.var 0) [{ ck := CK.int (Go.IntKind.u8), w := 1, a := E.avar 0 }, { ck := CK.int (Go.IntKind.u8), w := 1, a := E.avar 1 }, { ck := CK.int (Go.IntKind.u8), w := 1, a := E.avar 2 }, { ck := CK.int (Go.IntKind.u8), w := 1, a := E.avar 3 }, { ck := CK.int (Go.IntKind.u8), w := 1, a := E.avar 4 }, { ck := CK.int (Go.IntKind.i64), w := 1, a := E.avar 5 }, { ck := CK.int (Go.IntKind.u64), w := 1, a := E.avar 6 }, { ck := CK.val 0, w := 1, a := E.lit 0 }]]) ({ b := 1, v := 1, i := 1, a := 7, bo := 0, p := 1, r := 0 }) Tryd.f6 = fm_printM := rfl
noncomputable def fm_printK : F := runF cxK 6 ([SV.fn 16 [SV.ptr 0 0]]) ([Ck.abs 0, Ck.abs 1, Ck.row 0 true [SV.vv 0], Ck.sli true 0 36 8 (E.var 0) [{ ck := CK.int (Go.IntKind.u8), w := 1, a := E.avar 0 }, { ck := CK.int (Go.IntKind.u8), w := 1, a := E.avar 1 }, { ck := CK.int (Go.IntKind.u8), w := 1, a := E.avar 2 }, { ck := CK.int (Go.IntKind.u8), w := 1, a := E.avar 3 }, { ck := CK.int (Go.IntKind.u8), w := 1, a := E.avar 4 }, { ck := CK.int (Go.IntKind.i64), w := 1, a := E.avar 5 }, { ck := CK.int (Go.IntKind.u64), w := 1, a := E.avar 6 }, { ck := CK.cv, w := 1, a := E.avar 7 }]]) ({ b := 1, v := 1, i := 1, a := 8, bo := 0, p := 2, r := 0 }) Tryd.f6
def st_printK (P : Program) (Post : Value → List HP → Prop) (x0 : Int) (A0 : Nat → Int) (A1 : Nat → Int) (A2 : Nat → Int) (A3 : Nat → Int) (A4 : Nat → Int) (A5 : Nat → Int) (A6 : Nat → Int) (A7 : Nat → Int) (v0 : V1) (b0 : Nat) (p0 : HP) (p1 : HP) : Prop :=
 ∀ _ : Nat, ∀ _ : Nat, ∀ b3 : Nat, ∀ _ : Nat, ∀ (_ _ : Nat) (_ : Loop), Need (0 ≤ x0) (
 ∃ (I0x0 : Ext → Prop) (m0x0 : Ext → Nat), (∃ x1 : Int, ∃ x2 : Int, ∃ x3 : Int, ∃ A8 : (Nat → Int), x1 = 0 ∧ x3 = 0 ∧ (∀ j, j < (Int.toNat x3) → A8 j = (fun _ => 0) j) ∧ x2 = 0 ∧ I0x0 ⟨[], [], [x1, x2, x3], [A8], [], [], []⟩) ∧
 ∀ x1 : Int, ∀ x2 : Int, ∀ x3 : Int, ∀ A8 : (Nat → Int), I0x0 ⟨[], [], [x1, x2, x3], [A8], [], [], []⟩ →
 Fork (x1 < x0) (
 Need (0 ≤ x1) (
 ∀ _ : Nat, ∀ _ : Nat, Need ((-9223372036854775808) ≤ (x2 + 1)) (
 Need ((x2 + 1) ≤ 9223372036854775807) (
 Fork (1000 < (x2 + 1)) (
 Post (.tuple #[.string ⟨#[]⟩, .int .i64 3]) [p0, p1, rowHP b0 true ([v0.v]), sliHP true 36 8 v0.v (Int.toNat x0) (tabL (Int.toNat x0) [colI .u8 1 A0, colI .u8 1 A1, colI .u8 1 A2, colI .u8 1 A3, colI .u8 1 A4, colI .i64 1 A5, colI .u64 1 A6, colV 1 (fun j => bslV (A7 j))])]) (
 ∃ post, Meets P 12 [.agg #[.int .u8 (A0 (Int.toNat x1)), .int .u8 (A1 (Int.toNat x1)), .int .u8 (A2 (Int.toNat x1)), .int .u8 (A3 (Int.toNat x1)), .int .u8 (A4 (Int.toNat x1)), .int .i64 (A5 (Int.toNat x1)), .int .u64 (A6 (Int.toNat x1)), (bslV (A7 (Int.toNat x1)))]] [p0, p1] post ∧
 ∀ x hs, post x hs → ∃ A9 : (Nat → Int), ∃ q0 : Bool, x = .tuple #[.string ⟨(strD A9).toArray⟩, .bool q0] ∧ hs = [p0, p1] ∧
 Fork (¬ (q0 = true)) (
 Post (.tuple #[.string ⟨#[]⟩, .int .i64 2]) [p0, p1, rowHP b0 true ([v0.v]), sliHP true 36 8 v0.v (Int.toNat x0) (tabL (Int.toNat x0) [colI .u8 1 A0, colI .u8 1 A1, colI .u8 1 A2, colI .u8 1 A3, colI .u8 1 A4, colI .i64 1 A5, colI .u64 1 A6, colV 1 (fun j => bslV (A7 j))])]) (
 Need (0 ≤ (A9 0)) (
 Need (((A9 0) + 1) ≤ 9223372036854775807) (
 Need (0 ≤ x3) (
 Need (0 ≤ ((A9 0) + 1)) (
 Need ((x3 + ((A9 0) + 1)) ≤ 140737488355328) (
 Need (0 ≤ (x3 + ((A9 0) + 1))) (
 Fork (262144 < (x3 + ((A9 0) + 1))) (
 Post (.tuple #[.string ⟨#[]⟩, .int .i64 3]) [p0, p1, rowHP b0 true ([v0.v]), sliHP true 36 8 v0.v (Int.toNat x0) (tabL (Int.toNat x0) [colI .u8 1 A0, colI .u8 1 A1, colI .u8 1 A2, colI .u8 1 A3, colI .u8 1 A4, colI .i64 1 A5, colI .u64 1 A6, colV 1 (fun j => bslV (A7 j))])]) (
 Need ((-9223372036854775808) ≤ (x1 + 1)) (
 Need ((x1 + 1) ≤ 9223372036854775807) (
 ∃ x1' : Int, ∃ x2' : Int, ∃ x3' : Int, ∃ A8' : (Nat → Int), x1' = (x1 + 1) ∧ x3' = (x3 + ((A9 0) + 1)) ∧ (∀ j, j < (Int.toNat x3') → A8' j = (splF A8 (Int.toNat x3) (Int.toNat ((A9 0) + 1)) (sbyF (catF A9 (rowLF [1, 10])))) j) ∧ x2' = (x2 + 1) ∧ I0x0 ⟨[], [], [x1', x2', x3'], [A8'], [], [], []⟩ ∧ m0x0 ⟨[], [], [x1', x2', x3'], [A8'], [], [], []⟩ < m0x0 ⟨[], [], [x1, x2, x3], [A8], [], [], []⟩))))))))))))))) (
 ∃ post, Meets P 15 [.pointer (some ⟨b3, 0, none⟩)] [bldHP b3 47 5 (segCells .u8 (Int.toNat x3) A8)] post ∧
 ∀ x hs, post x hs → ∃ A9 : (Nat → Int), x = .string ⟨(strD A9).toArray⟩ ∧ hs = [] ∧
 Post (.tuple #[.string ⟨(strD A9).toArray⟩, .int .i64 0]) [p0, p1, rowHP b0 true ([v0.v]), sliHP true 36 8 v0.v (Int.toNat x0) (tabL (Int.toNat x0) [colI .u8 1 A0, colI .u8 1 A1, colI .u8 1 A2, colI .u8 1 A3, colI .u8 1 A4, colI .i64 1 A5, colI .u64 1 A6, colV 1 (fun j => bslV (A7 j))])]))
theorem vc_printK (P : Program) (Post : Value → List HP → Prop) (x0 : Int) (A0 : Nat → Int) (A1 : Nat → Int) (A2 : Nat → Int) (A3 : Nat → Int) (A4 : Nat → Int) (A5 : Nat → Int) (A6 : Nat → Int) (A7 : Nat → Int) (v0 : V1) (b0 : Nat) (p0 : HP) (p1 : HP) (L : Nat → LC) : VC P (fun v hs => Post v (hs.take 4)) fm_printK { iv := [x0], av := [A0, A1, A2, A3, A4, A5, A6, A7], bo := [], bv := [b0], vv := [v0], pv := [p0, p1] } L = st_printK P Post x0 A0 A1 A2 A3 A4 A5 A6 A7 v0 b0 p0 p1 := by kernel_rfl
theorem run_printK : runF cxK 6 ([SV.fn 16 [SV.ptr 0 0]]) ([Ck.abs 0, Ck.abs 1, Ck.row 0 true [SV.vv 0], Ck.sli true 0 36 8 (E.var 0) [{ ck := CK.int (Go.IntKind.u8), w := 1, a := E.avar 0 }, { ck := CK.int (Go.IntKind.u8), w := 1, a := E.avar 1 }, { ck := CK.int (Go.IntKind.u8), w := 1, a := E.avar 2 }, { ck := CK.int (Go.IntKind.u8), w := 1, a := E.avar 3 }, { ck := CK.int (Go.IntKind.u8), w := 1, a := E.avar 4 }, { ck := CK.int (Go.IntKind.i64), w := 1, a := E.avar 5 }, { ck := CK.int (Go.IntKind.u64), w := 1, a := E.avar 6 }, { ck := CK.cv, w := 1, a := E.avar 7 }]]) ({ b := 1, v := 1, i := 1, a := 8, bo := 0, p := 2, r := 0 }) Tryd.f6 = fm_printK := rfl
noncomputable def fm_rowsV : F := runF cxR 9 ([SV.vv 0, SV.vv 1]) ([Ck.abs 0, Ck.abs 1, Ck.sli true 0 36 8 (E.var 0) [{ ck := CK.int (Go.IntKind.u8), w := 1, a := E.avar 0 }, { ck := CK.int (Go.IntKind.u8), w := 1, a := E.avar 1 }, { ck := CK.int (Go.IntKind.u8), w := 1, a := E.avar 2 }, { ck := CK.int (Go.IntKind.u8), w := 1, a := E.avar 3 }, { ck := CK.int (Go.IntKind.u8), w := 1, a := E.avar 4 }, { ck := CK.int (Go.IntKind.i64), w := 1, a := E.avar 5 }, { ck := CK.int (Go.IntKind.u64), w := 1, a := E.avar 6 }, { ck := CK.cv, w := 1, a := E.avar 7 }], Ck.sli false 1 36 8 (E.var 1) [{ ck := CK.int (Go.IntKind.u8), w := 1, a := E.avar 8 }, { ck := CK.int (Go.IntKind.u8), w := 1, a := E.avar 9 }, { ck := CK.int (Go.IntKind.u8), w := 1, a := E.avar 10 }, { ck := CK.int (Go.IntKind.u8), w := 1, a := E.avar 11 }, { ck := CK.int (Go.IntKind.u8), w := 1, a := E.avar 12 }, { ck := CK.int (Go.IntKind.i64), w := 1, a := E.avar 13 }, { ck := CK.int (Go.IntKind.u64), w := 1, a := E.avar 14 }, { ck := CK.val 0, w := 1, a := E.lit 0 }]]) ({ b := 0, v := 2, i := 2, a := 15, bo := 0, p := 2, r := 0 }) Tryd.f9
def st_rowsV (P : Program) (Post : Value → List HP → Prop) (x0 : Int) (x1 : Int) (A0 : Nat → Int) (A1 : Nat → Int) (A2 : Nat → Int) (A3 : Nat → Int) (A4 : Nat → Int) (A5 : Nat → Int) (A6 : Nat → Int) (A7 : Nat → Int) (A8 : Nat → Int) (A9 : Nat → Int) (A10 : Nat → Int) (A11 : Nat → Int) (A12 : Nat → Int) (A13 : Nat → Int) (A14 : Nat → Int) (v0 : V1) (v1 : V1) (V0 : Nat → V1) (p0 : HP) (p1 : HP) : Prop :=
 Need (0 ≤ x0) (
 Need (0 ≤ x1) (
 ∃ (I0x0 : Ext → Prop) (m0x0 : Ext → Nat), (∃ x2 : Int, ∃ q0 : Bool, x2 = 0 ∧ q0 = (x0 == x1) ∧ I0x0 ⟨[], [], [x2], [], [q0], [], []⟩) ∧
 ∀ x2 : Int, ∀ q0 : Bool, I0x0 ⟨[], [], [x2], [], [q0], [], []⟩ →
 Need (0 ≤ x0) (
 Fork ((x2 < x0) ∧ (q0 = true)) (
 Need (0 ≤ x2) (
 Need (x2 < x0) (
 Need (x2 < x1) (
 ∃ post, Meets P 11 [.agg #[.int .u8 (A0 (Int.toNat x2)), .int .u8 (A1 (Int.toNat x2)), .int .u8 (A2 (Int.toNat x2)), .int .u8 (A3 (Int.toNat x2)), .int .u8 (A4 (Int.toNat x2)), .int .i64 (A5 (Int.toNat x2)), .int .u64 (A6 (Int.toNat x2)), (bslV (A7 (Int.toNat x2)))], .agg #[.int .u8 (A8 (Int.toNat x2)), .int .u8 (A9 (Int.toNat x2)), .int .u8 (A10 (Int.toNat x2)), .int .u8 (A11 (Int.toNat x2)), .int .u8 (A12 (Int.toNat x2)), .int .i64 (A13 (Int.toNat x2)), .int .u64 (A14 (Int.toNat x2)), (V0 (Int.toNat x2)).v]] [p0, p1] post ∧
 ∀ x hs, post x hs → ∃ q1 : Bool, x = .bool q1 ∧ hs = [p0, p1] ∧
 Need ((-9223372036854775808) ≤ (x2 + 1)) (
 Need ((x2 + 1) ≤ 9223372036854775807) (
 ∃ x2' : Int, ∃ q0' : Bool, x2' = (x2 + 1) ∧ q0' = q1 ∧ I0x0 ⟨[], [], [x2'], [], [q0'], [], []⟩ ∧ m0x0 ⟨[], [], [x2'], [], [q0'], [], []⟩ < m0x0 ⟨[], [], [x2], [], [q0], [], []⟩)))))) (
 Post (.bool q0) [p0, p1, sliHP true 36 8 v0.v (Int.toNat x0) (tabL (Int.toNat x0) [colI .u8 1 A0, colI .u8 1 A1, colI .u8 1 A2, colI .u8 1 A3, colI .u8 1 A4, colI .i64 1 A5, colI .u64 1 A6, colV 1 (fun j => bslV (A7 j))]), sliHP false 36 8 v1.v (Int.toNat x1) (tabL (Int.toNat x1) [colI .u8 1 A8, colI .u8 1 A9, colI .u8 1 A10, colI .u8 1 A11, colI .u8 1 A12, colI .i64 1 A13, colI .u64 1 A14, colV 1 (fun j => (V0 j).v)])]))))
theorem vc_rowsV (P : Program) (Post : Value → List HP → Prop) (x0 : Int) (x1 : Int) (A0 : Nat → Int) (A1 : Nat → Int) (A2 : Nat → Int) (A3 : Nat → Int) (A4 : Nat → Int) (A5 : Nat → Int) (A6 : Nat → Int) (A7 : Nat → Int) (A8 : Nat → Int) (A9 : Nat → Int) (A10 : Nat → Int) (A11 : Nat → Int) (A12 : Nat → Int) (A13 : Nat → Int) (A14 : Nat → Int) (v0 : V1) (v1 : V1) (V0 : Nat → V1) (p0 : HP) (p1 : HP) (L : Nat → LC) : VC P (fun v hs => Post v (hs.take 4)) fm_rowsV { iv := [x0, x1], av := [A0, A1, A2, A3, A4, A5, A6, A7, A8, A9, A10, A11, A12, A13, A14], bo := [], bv := [], vv := [v0, v1], va := [V0], pv := [p0, p1] } L = st_rowsV P Post x0 x1 A0 A1 A2 A3 A4 A5 A6 A7 A8 A9 A10 A11 A12 A13 A14 v0 v1 V0 p0 p1 := by kernel_rfl
theorem run_rowsV : runF cxR 9 ([SV.vv 0, SV.vv 1]) ([Ck.abs 0, Ck.abs 1, Ck.sli true 0 36 8 (E.var 0) [{ ck := CK.int (Go.IntKind.u8), w := 1, a := E.avar 0 }, { ck := CK.int (Go.IntKind.u8), w := 1, a := E.avar 1 }, { ck := CK.int (Go.IntKind.u8), w := 1, a := E.avar 2 }, { ck := CK.int (Go.IntKind.u8), w := 1, a := E.avar 3 }, { ck := CK.int (Go.IntKind.u8), w := 1, a := E.avar 4 }, { ck := CK.int (Go.IntKind.i64), w := 1, a := E.avar 5 }, { ck := CK.int (Go.IntKind.u64), w := 1, a := E.avar 6 }, { ck := CK.cv, w := 1, a := E.avar 7 }], Ck.sli false 1 36 8 (E.var 1) [{ ck := CK.int (Go.IntKind.u8), w := 1, a := E.avar 8 }, { ck := CK.int (Go.IntKind.u8), w := 1, a := E.avar 9 }, { ck := CK.int (Go.IntKind.u8), w := 1, a := E.avar 10 }, { ck := CK.int (Go.IntKind.u8), w := 1, a := E.avar 11 }, { ck := CK.int (Go.IntKind.u8), w := 1, a := E.avar 12 }, { ck := CK.int (Go.IntKind.i64), w := 1, a := E.avar 13 }, { ck := CK.int (Go.IntKind.u64), w := 1, a := E.avar 14 }, { ck := CK.val 0, w := 1, a := E.lit 0 }]]) ({ b := 0, v := 2, i := 2, a := 15, bo := 0, p := 2, r := 0 }) Tryd.f9 = fm_rowsV := rfl
end Go.RX.Bk

namespace Go.RX.Sv
open Go.RX Go.Proofs
noncomputable def cx : Ctx := { T := TT, FT := FT, loops := loops, callees := callees }
set_option maxRecDepth 100000
end Go.RX.Sv
