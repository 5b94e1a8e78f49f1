/- The program's reading of a text: what the function leaves to be shown; printed by a program of ours (wip/tools). -/
import Derived.Test.YtgaabcinjbjbgaaDoorM25
import Derived.Test.YtgaabcinjbjbgaaDoorM36
import Derived.Test.YtgaabcinjbjbgaaDoorM26

namespace Go.RX.Sw
open Go.RX Go.Proofs
noncomputable def cx : Ctx := { T := TT, FT := FT, loops := loops, callees := callees }
set_option maxRecDepth 100000
noncomputable def fm_pread : F := runF cx 8 ([SV.strE (E.avar 0)]) ([Ck.abs 0, Ck.abs 1]) ({ b := 0, v := 0, i := 0, a := 1, bo := 0, p := 2, r := 0 }) Tryd.f8
def st_pread (P : Program) (Post : Value → List HP → Prop) (A0 : Nat → Int) (p0 : HP) (p1 : HP) : Prop :=
 ∀ b0 : Nat, ∀ b1 : Nat, ∀ b2 : Nat, ∀ b3 : Nat, Need (0 ≤ (A0 0)) (
 Fork (262144 < (A0 0)) (
 Post (.tuple #[.slice none 0 0, .int .i64 0, .int .i64 3]) [p0, p1, rowHP b0 true ([.slice none 0 0]), rowHP b1 true ([.func (.func 18) #[] #[.pointer (some ⟨b0, 0, none⟩)]]), rowHP b2 true ([.int .i64 0]), rowHP b3 true ([.int .i64 3])]) (
 ∀ b4 : Nat, ∀ b5 : Nat, ∀ b6 : Nat, ∀ b7 : Nat, ∀ b8 : Nat, ∀ (_ l10 : Nat) (r9 : Loop), ∃ (I0x2 : Ext → Prop) (m0x2 : Ext → Nat), (∃ v1 : V1, ∃ x0 : Int, ∃ x1 : Int, ∃ x2 : Int, ∃ A1 : (Nat → Int), ∃ A2 : (Nat → Int), ∃ A3 : (Nat → Int), ∃ A4 : (Nat → Int), ∃ A5 : (Nat → Int), ∃ A6 : (Nat → Int), ∃ A7 : (Nat → Int), ∃ A8 : (Nat → Int), ∃ A9 : (Nat → Int), ∃ p2 : HP, p2 = p1 ∧ v1 = (⟨.slice none 0 0, rfl⟩ : V1) ∧ x0 = 0 ∧ x1 = 0 ∧ (A9 = A0) ∧ v1 = (⟨.slice none 0 0, rfl⟩ : V1) ∧ x2 = 0 ∧ (∀ j, j < (Int.toNat x2) → A1 j = (fun _ => 0) j) ∧ (∀ j, j < (Int.toNat x2) → A2 j = (fun _ => 0) j) ∧ (∀ j, j < (Int.toNat x2) → A3 j = (fun _ => 0) j) ∧ (∀ j, j < (Int.toNat x2) → A4 j = (fun _ => 0) j) ∧ (∀ j, j < (Int.toNat x2) → A5 j = (fun _ => 0) j) ∧ (∀ j, j < (Int.toNat x2) → A6 j = (fun _ => 0) j) ∧ (∀ j, j < (Int.toNat x2) → A7 j = (fun _ => 0) j) ∧ (∀ j, j < (Int.toNat x2) → A8 j = (fun _ => 0) j) ∧ I0x2 ⟨[], [v1], [x0, x1, x2], [A1, A2, A3, A4, A5, A6, A7, A8, A9], [], [p2], []⟩) ∧
 ∀ v1 : V1, ∀ x0 : Int, ∀ x1 : Int, ∀ x2 : Int, ∀ A1 : (Nat → Int), ∀ A2 : (Nat → Int), ∀ A3 : (Nat → Int), ∀ A4 : (Nat → Int), ∀ A5 : (Nat → Int), ∀ A6 : (Nat → Int), ∀ A7 : (Nat → Int), ∀ A8 : (Nat → Int), ∀ A9 : (Nat → Int), ∀ p2 : HP, I0x2 ⟨[], [v1], [x0, x1, x2], [A1, A2, A3, A4, A5, A6, A7, A8, A9], [], [p2], []⟩ →
 ∃ post, Meets P 48 [.string ⟨(strD A9).toArray⟩, .string ⟨#[10]⟩] [] post ∧
 ∀ x hs, post x hs → ∃ x3 : Int, x = .int .i64 x3 ∧ hs = [] ∧
 Fork (x3 < 0) (
 Need ((-9223372036854775808) ≤ (x0 + 1)) (
 Need ((x0 + 1) ≤ 9223372036854775807) (
 ∃ post, Meets P 28 [.string ⟨(strD A9).toArray⟩, .string ⟨#[35]⟩] [p0] post ∧
 ∀ x hs, post x hs → ∃ A10 : (Nat → Int), ∃ A11 : (Nat → Int), ∃ q0 : Bool, x = .tuple #[.string ⟨(strD A10).toArray⟩, .string ⟨(strD A11).toArray⟩, .bool q0] ∧ hs = [p0] ∧
 ∃ post, Meets P 29 [.string ⟨(strD A10).toArray⟩, .func (.func 30) #[] #[]] [p0] post ∧
 ∀ x hs, post x hs → ∃ v2 : V1, ∃ x4 : Int, ∃ A12 : (Nat → Int), x = v2.v ∧ hs = [p0, sliHP true 9 1 v2.v (Int.toNat x4) (tabL (Int.toNat x4) [colV 1 (fun j => .string ⟨(strD (at2F A12 j)).toArray⟩)])] ∧
 Need (0 ≤ x4) (
 Fork (x4 = 0) (
 Post (.tuple #[v1.v, .int .i64 0, .int .i64 0]) [p0, p2, rowHP b0 true ([v1.v]), rowHP b1 true ([.func (.func 18) #[] #[.pointer (some ⟨b0, 0, none⟩)]]), rowHP b2 true ([.int .i64 0]), rowHP b3 true ([.int .i64 0]), rowHP b4 true ([.int .i64 (x0 + 1)]), rowHP b5 true ([.int .i64 x1]), rowHP b6 true ([.string ⟨(strD A9).toArray⟩]), rowHP b7 true ([.string ⟨#[10]⟩]), rowHP b8 true ([.int .i64 0]), HP.emp, recHP l10 { r9 with state := LoopState.exhausted, pending := none }, sliHP true 36 8 v1.v (Int.toNat x2) (tabL (Int.toNat x2) [colI .u8 1 A1, colI .u8 1 A2, colI .u8 1 A3, colI .u8 1 A4, colI .u8 1 A5, colI .i64 1 A6, colI .u64 1 A7, colV 1 (fun j => bslV (A8 j))]), sliHP true 9 1 v2.v (Int.toNat x4) (tabL (Int.toNat x4) [colV 1 (fun j => .string ⟨(strD (at2F A12 j)).toArray⟩)])]) (
 ∃ post, Meets P 31 [v2.v] [p0, p2, sliHP true 9 1 v2.v (Int.toNat x4) (tabL (Int.toNat x4) [colV 1 (fun j => .string ⟨(strD (at2F A12 j)).toArray⟩)])] post ∧
 ∀ x hs, post x hs → ∃ x5 : Int, ∃ x6 : Int, ∃ x7 : Int, ∃ x8 : Int, ∃ x9 : Int, ∃ x10 : Int, ∃ x11 : Int, ∃ x12 : Int, ∃ x13 : Int, ∃ p3 : HP, x = .tuple #[.agg #[.int .u8 x5, .int .u8 x6, .int .u8 x7, .int .u8 x8, .int .u8 x9, .int .i64 x10, .int .u64 x11, (bslV x12)], .int .i64 x13] ∧ hs = [p0, p3, sliHP true 9 1 v2.v (Int.toNat x4) (tabL (Int.toNat x4) [colV 1 (fun j => .string ⟨(strD (at2F A12 j)).toArray⟩)])] ∧
 ∀ b11 : Nat, Fork ((x13 = 0) ∧ (x1 = 1000)) (
 Post (.tuple #[.slice none 0 0, .int .i64 (x0 + 1), .int .i64 3]) [p0, p3, rowHP b0 true ([.slice none 0 0]), rowHP b1 true ([.func (.func 18) #[] #[.pointer (some ⟨b0, 0, none⟩)]]), rowHP b2 true ([.int .i64 (x0 + 1)]), rowHP b3 true ([.int .i64 3]), rowHP b4 true ([.int .i64 (x0 + 1)]), rowHP b5 true ([.int .i64 x1]), rowHP b6 true ([.string ⟨(strD A9).toArray⟩]), rowHP b7 true ([.string ⟨#[10]⟩]), rowHP b8 true ([.int .i64 0]), HP.emp, recHP l10 { r9 with state := LoopState.exhausted, pending := some Code.ret }, sliHP true 36 8 v1.v (Int.toNat x2) (tabL (Int.toNat x2) [colI .u8 1 A1, colI .u8 1 A2, colI .u8 1 A3, colI .u8 1 A4, colI .u8 1 A5, colI .i64 1 A6, colI .u64 1 A7, colV 1 (fun j => bslV (A8 j))]), sliHP true 9 1 v2.v (Int.toNat x4) (tabL (Int.toNat x4) [colV 1 (fun j => .string ⟨(strD (at2F A12 j)).toArray⟩)]), rowHP b11 true ([.int .u8 x5, .int .u8 x6, .int .u8 x7, .int .u8 x8, .int .u8 x9, .int .i64 x10, .int .u64 x11, (bslV x12)])]) (
 Fork (¬ (x13 = 0)) (
 Post (.tuple #[.slice none 0 0, .int .i64 (x0 + 1), .int .i64 x13]) [p0, p3, rowHP b0 true ([.slice none 0 0]), rowHP b1 true ([.func (.func 18) #[] #[.pointer (some ⟨b0, 0, none⟩)]]), rowHP b2 true ([.int .i64 (x0 + 1)]), rowHP b3 true ([.int .i64 x13]), rowHP b4 true ([.int .i64 (x0 + 1)]), rowHP b5 true ([.int .i64 x1]), rowHP b6 true ([.string ⟨(strD A9).toArray⟩]), rowHP b7 true ([.string ⟨#[10]⟩]), rowHP b8 true ([.int .i64 0]), HP.emp, recHP l10 { r9 with state := LoopState.exhausted, pending := some Code.ret }, sliHP true 36 8 v1.v (Int.toNat x2) (tabL (Int.toNat x2) [colI .u8 1 A1, colI .u8 1 A2, colI .u8 1 A3, colI .u8 1 A4, colI .u8 1 A5, colI .i64 1 A6, colI .u64 1 A7, colV 1 (fun j => bslV (A8 j))]), sliHP true 9 1 v2.v (Int.toNat x4) (tabL (Int.toNat x4) [colV 1 (fun j => .string ⟨(strD (at2F A12 j)).toArray⟩)]), rowHP b11 true ([.int .u8 x5, .int .u8 x6, .int .u8 x7, .int .u8 x8, .int .u8 x9, .int .i64 x10, .int .u64 x11, (bslV x12)])]) (
 Need ((-9223372036854775808) ≤ (x1 + 1)) (
 Need ((x1 + 1) ≤ 9223372036854775807) (
 ∀ b12 : Nat, ∀ b13 : Nat, Need (0 ≤ x2) (
 Need (((x2 + 1) * 48) ≤ 140737488355328) (
 ∀ v3 : V1, Post (.tuple #[v3.v, .int .i64 0, .int .i64 0]) [p0, p3, rowHP b0 true ([v3.v]), rowHP b1 true ([.func (.func 18) #[] #[.pointer (some ⟨b0, 0, none⟩)]]), rowHP b2 true ([.int .i64 0]), rowHP b3 true ([.int .i64 0]), rowHP b4 true ([.int .i64 (x0 + 1)]), rowHP b5 true ([.int .i64 (x1 + 1)]), rowHP b6 true ([.string ⟨(strD A9).toArray⟩]), rowHP b7 true ([.string ⟨#[10]⟩]), rowHP b8 true ([.int .i64 0]), HP.emp, recHP l10 { r9 with state := LoopState.exhausted, pending := none }, sliHP true 36 8 v3.v (Int.toNat (x2 + 1)) (tabL (Int.toNat (x2 + 1)) [colI .u8 1 (updF A1 (Int.toNat x2) x5), colI .u8 1 (updF A2 (Int.toNat x2) x6), colI .u8 1 (updF A3 (Int.toNat x2) x7), colI .u8 1 (updF A4 (Int.toNat x2) x8), colI .u8 1 (updF A5 (Int.toNat x2) x9), colI .i64 1 (updF A6 (Int.toNat x2) x10), colI .u64 1 (updF A7 (Int.toNat x2) x11), colV 1 (fun j => bslV ((updF A8 (Int.toNat x2) x12) j))]), sliHP true 9 1 v2.v (Int.toNat x4) (tabL (Int.toNat x4) [colV 1 (fun j => .string ⟨(strD (at2F A12 j)).toArray⟩)]), rowHP b11 true ([.int .u8 x5, .int .u8 x6, .int .u8 x7, .int .u8 x8, .int .u8 x9, .int .i64 x10, .int .u64 x11, (bslV x12)]), rowHP b12 true ([.int .u8 x5, .int .u8 x6, .int .u8 x7, .int .u8 x8, .int .u8 x9, .int .i64 x10, .int .u64 x11, (bslV x12)]), rowHP b13 true ([.int .u8 x5, .int .u8 x6, .int .u8 x7, .int .u8 x8, .int .u8 x9, .int .i64 x10, .int .u64 x11, (bslV x12)])]))))))))))) (
 Need ((-9223372036854775808) ≤ x3) (
 Need (x3 ≤ 9223372036854775807) (
 Need (0 ≤ x3) (
 Need (x3 ≤ (A9 0)) (
 Need ((-9223372036854775808) ≤ (x0 + 1)) (
 Need ((x0 + 1) ≤ 9223372036854775807) (
 ∃ post, Meets P 28 [.string ⟨(strD (updF A9 0 x3)).toArray⟩, .string ⟨#[35]⟩] [p0] post ∧
 ∀ x hs, post x hs → ∃ A10 : (Nat → Int), ∃ A11 : (Nat → Int), ∃ q0 : Bool, x = .tuple #[.string ⟨(strD A10).toArray⟩, .string ⟨(strD A11).toArray⟩, .bool q0] ∧ hs = [p0] ∧
 ∃ post, Meets P 29 [.string ⟨(strD A10).toArray⟩, .func (.func 30) #[] #[]] [p0] post ∧
 ∀ x hs, post x hs → ∃ v2 : V1, ∃ x4 : Int, ∃ A12 : (Nat → Int), x = v2.v ∧ hs = [p0, sliHP true 9 1 v2.v (Int.toNat x4) (tabL (Int.toNat x4) [colV 1 (fun j => .string ⟨(strD (at2F A12 j)).toArray⟩)])] ∧
 Need (0 ≤ x4) (
 Fork (x4 = 0) (
 Need ((-9223372036854775808) ≤ (x3 + 1)) (
 Need ((x3 + 1) ≤ 9223372036854775807) (
 Need (0 ≤ (x3 + 1)) (
 Need ((x3 + 1) ≤ (A9 0)) (
 ∃ v1' : V1, ∃ x0' : Int, ∃ x1' : Int, ∃ x2' : Int, ∃ A1' : (Nat → Int), ∃ A2' : (Nat → Int), ∃ A3' : (Nat → Int), ∃ A4' : (Nat → Int), ∃ A5' : (Nat → Int), ∃ A6' : (Nat → Int), ∃ A7' : (Nat → Int), ∃ A8' : (Nat → Int), ∃ A9' : (Nat → Int), ∃ p2' : HP, p2' = p2 ∧ v1' = v1 ∧ x0' = (x0 + 1) ∧ x1' = x1 ∧ (A9' = (updF (shiftF A9 (Int.toNat (x3 + 1))) 0 ((A9 0) - (x3 + 1)))) ∧ v1' = v1 ∧ x2' = x2 ∧ (∀ j, j < (Int.toNat x2') → A1' j = A1 j) ∧ (∀ j, j < (Int.toNat x2') → A2' j = A2 j) ∧ (∀ j, j < (Int.toNat x2') → A3' j = A3 j) ∧ (∀ j, j < (Int.toNat x2') → A4' j = A4 j) ∧ (∀ j, j < (Int.toNat x2') → A5' j = A5 j) ∧ (∀ j, j < (Int.toNat x2') → A6' j = A6 j) ∧ (∀ j, j < (Int.toNat x2') → A7' j = A7 j) ∧ (∀ j, j < (Int.toNat x2') → A8' j = A8 j) ∧ I0x2 ⟨[], [v1'], [x0', x1', x2'], [A1', A2', A3', A4', A5', A6', A7', A8', A9'], [], [p2'], []⟩ ∧ m0x2 ⟨[], [v1'], [x0', x1', x2'], [A1', A2', A3', A4', A5', A6', A7', A8', A9'], [], [p2'], []⟩ < m0x2 ⟨[], [v1], [x0, x1, x2], [A1, A2, A3, A4, A5, A6, A7, A8, A9], [], [p2], []⟩))))) (
 ∃ post, Meets P 31 [v2.v] [p0, p2, sliHP true 9 1 v2.v (Int.toNat x4) (tabL (Int.toNat x4) [colV 1 (fun j => .string ⟨(strD (at2F A12 j)).toArray⟩)])] post ∧
 ∀ x hs, post x hs → ∃ x5 : Int, ∃ x6 : Int, ∃ x7 : Int, ∃ x8 : Int, ∃ x9 : Int, ∃ x10 : Int, ∃ x11 : Int, ∃ x12 : Int, ∃ x13 : Int, ∃ p3 : HP, x = .tuple #[.agg #[.int .u8 x5, .int .u8 x6, .int .u8 x7, .int .u8 x8, .int .u8 x9, .int .i64 x10, .int .u64 x11, (bslV x12)], .int .i64 x13] ∧ hs = [p0, p3, sliHP true 9 1 v2.v (Int.toNat x4) (tabL (Int.toNat x4) [colV 1 (fun j => .string ⟨(strD (at2F A12 j)).toArray⟩)])] ∧
 ∀ b11 : Nat, Fork ((x13 = 0) ∧ (x1 = 1000)) (
 Post (.tuple #[.slice none 0 0, .int .i64 (x0 + 1), .int .i64 3]) [p0, p3, rowHP b0 true ([.slice none 0 0]), rowHP b1 true ([.func (.func 18) #[] #[.pointer (some ⟨b0, 0, none⟩)]]), rowHP b2 true ([.int .i64 (x0 + 1)]), rowHP b3 true ([.int .i64 3]), rowHP b4 true ([.int .i64 (x0 + 1)]), rowHP b5 true ([.int .i64 x1]), rowHP b6 true ([.string ⟨(strD A9).toArray⟩]), rowHP b7 true ([.string ⟨#[10]⟩]), rowHP b8 true ([.int .i64 0]), HP.emp, recHP l10 { r9 with state := LoopState.exhausted, pending := some Code.ret }, sliHP true 36 8 v1.v (Int.toNat x2) (tabL (Int.toNat x2) [colI .u8 1 A1, colI .u8 1 A2, colI .u8 1 A3, colI .u8 1 A4, colI .u8 1 A5, colI .i64 1 A6, colI .u64 1 A7, colV 1 (fun j => bslV (A8 j))]), sliHP true 9 1 v2.v (Int.toNat x4) (tabL (Int.toNat x4) [colV 1 (fun j => .string ⟨(strD (at2F A12 j)).toArray⟩)]), rowHP b11 true ([.int .u8 x5, .int .u8 x6, .int .u8 x7, .int .u8 x8, .int .u8 x9, .int .i64 x10, .int .u64 x11, (bslV x12)])]) (
 Fork (¬ (x13 = 0)) (
 Post (.tuple #[.slice none 0 0, .int .i64 (x0 + 1), .int .i64 x13]) [p0, p3, rowHP b0 true ([.slice none 0 0]), rowHP b1 true ([.func (.func 18) #[] #[.pointer (some ⟨b0, 0, none⟩)]]), rowHP b2 true ([.int .i64 (x0 + 1)]), rowHP b3 true ([.int .i64 x13]), rowHP b4 true ([.int .i64 (x0 + 1)]), rowHP b5 true ([.int .i64 x1]), rowHP b6 true ([.string ⟨(strD A9).toArray⟩]), rowHP b7 true ([.string ⟨#[10]⟩]), rowHP b8 true ([.int .i64 0]), HP.emp, recHP l10 { r9 with state := LoopState.exhausted, pending := some Code.ret }, sliHP true 36 8 v1.v (Int.toNat x2) (tabL (Int.toNat x2) [colI .u8 1 A1, colI .u8 1 A2, colI .u8 1 A3, colI .u8 1 A4, colI .u8 1 A5, colI .i64 1 A6, colI .u64 1 A7, colV 1 (fun j => bslV (A8 j))]), sliHP true 9 1 v2.v (Int.toNat x4) (tabL (Int.toNat x4) [colV 1 (fun j => .string ⟨(strD (at2F A12 j)).toArray⟩)]), rowHP b11 true ([.int .u8 x5, .int .u8 x6, .int .u8 x7, .int .u8 x8, .int .u8 x9, .int .i64 x10, .int .u64 x11, (bslV x12)])]) (
 Need ((-9223372036854775808) ≤ (x1 + 1)) (
 Need ((x1 + 1) ≤ 9223372036854775807) (
 ∀ b12 : Nat, ∀ b13 : Nat, Need (0 ≤ x2) (
 Need (((x2 + 1) * 48) ≤ 140737488355328) (
 ∀ v3 : V1, Need ((-9223372036854775808) ≤ (x3 + 1)) (
 Need ((x3 + 1) ≤ 9223372036854775807) (
 Need (0 ≤ (x3 + 1)) (
 Need ((x3 + 1) ≤ (A9 0)) (
 ∃ v1' : V1, ∃ x0' : Int, ∃ x1' : Int, ∃ x2' : Int, ∃ A1' : (Nat → Int), ∃ A2' : (Nat → Int), ∃ A3' : (Nat → Int), ∃ A4' : (Nat → Int), ∃ A5' : (Nat → Int), ∃ A6' : (Nat → Int), ∃ A7' : (Nat → Int), ∃ A8' : (Nat → Int), ∃ A9' : (Nat → Int), ∃ p2' : HP, p2' = p3 ∧ v1' = v3 ∧ x0' = (x0 + 1) ∧ x1' = (x1 + 1) ∧ (A9' = (updF (shiftF A9 (Int.toNat (x3 + 1))) 0 ((A9 0) - (x3 + 1)))) ∧ v1' = v3 ∧ x2' = (x2 + 1) ∧ (∀ j, j < (Int.toNat x2') → A1' j = (updF A1 (Int.toNat x2) x5) j) ∧ (∀ j, j < (Int.toNat x2') → A2' j = (updF A2 (Int.toNat x2) x6) j) ∧ (∀ j, j < (Int.toNat x2') → A3' j = (updF A3 (Int.toNat x2) x7) j) ∧ (∀ j, j < (Int.toNat x2') → A4' j = (updF A4 (Int.toNat x2) x8) j) ∧ (∀ j, j < (Int.toNat x2') → A5' j = (updF A5 (Int.toNat x2) x9) j) ∧ (∀ j, j < (Int.toNat x2') → A6' j = (updF A6 (Int.toNat x2) x10) j) ∧ (∀ j, j < (Int.toNat x2') → A7' j = (updF A7 (Int.toNat x2) x11) j) ∧ (∀ j, j < (Int.toNat x2') → A8' j = (updF A8 (Int.toNat x2) x12) j) ∧ I0x2 ⟨[], [v1'], [x0', x1', x2'], [A1', A2', A3', A4', A5', A6', A7', A8', A9'], [], [p2'], []⟩ ∧ m0x2 ⟨[], [v1'], [x0', x1', x2'], [A1', A2', A3', A4', A5', A6', A7', A8', A9'], [], [p2'], []⟩ < m0x2 ⟨[], [v1], [x0, x1, x2], [A1, A2, A3, A4, A5, A6, A7, A8, A9], [], [p2], []⟩)))))))))))))))))))))
theorem vc_pread (P : Program) (Post : Value → List HP → Prop) (A0 : Nat → Int) (p0 : HP) (p1 : HP) (L : Nat → LC) : VC P Post fm_pread { iv := [], av := [A0], bo := [], bv := [], vv := [], pv := [p0, p1] } L = st_pread P Post A0 p0 p1 := by kernel_rfl
theorem run_pread : runF cx 8 ([SV.strE (E.avar 0)]) ([Ck.abs 0, Ck.abs 1]) ({ b := 0, v := 0, i := 0, a := 1, bo := 0, p := 2, r := 0 }) Tryd.f8 = fm_pread := rfl
end Go.RX.Sw
