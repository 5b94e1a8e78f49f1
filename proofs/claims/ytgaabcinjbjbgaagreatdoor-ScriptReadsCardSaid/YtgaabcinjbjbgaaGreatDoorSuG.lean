/- Reading of moves, the document's side: what the functions leave to be shown (O); printed by a program of ours (wip/tools). -/
import Derived.Test.YtgaabcinjbjbgaaGreatDoorM27
import Derived.Test.YtgaabcinjbjbgaaGreatDoorM28

namespace Go.RX.Su
open Go.RX Go.Proofs
noncomputable def cxO : Ctx := { T := TT, FT := FT, loops := loops, callees := calleesO }
set_option maxRecDepth 100000
noncomputable def fm_rone : F := runF cxO 31 ([SV.vv 0]) ([Ck.abs 0, Ck.sli true 0 9 1 (E.var 0) [{ ck := CK.str, w := 1, a := E.avar 0 }]]) ({ b := 0, v := 1, i := 1, a := 1, bo := 0, p := 1, r := 0 }) Tryz.f31
def st_rone (P : Program) (Post : Value → List HP → Prop) (x0 : Int) (A0 : Nat → Int) (v0 : V1) (p0 : HP) : Prop :=
 ∀ _ : Nat, ∀ _ : Nat, ∀ _ : Nat, Need (0 < x0) (
 Fork (¬ (strD (rowLF [4, 100, 105, 97, 108]) = strD (at2F A0 0))) (
 ∀ _ : Nat, ∀ _ : Nat, Fork (¬ (strD (rowLF [6, 97, 110, 115, 119, 101, 114]) = strD (at2F A0 0))) (
 ∀ _ : Nat, ∀ _ : Nat, Fork (¬ (strD (rowLF [7, 100, 101, 99, 108, 105, 110, 101]) = strD (at2F A0 0))) (
 ∀ _ : Nat, ∀ _ : Nat, Fork (¬ (strD (rowLF [4, 104, 97, 110, 103]) = strD (at2F A0 0))) (
 ∀ _ : Nat, ∀ _ : Nat, Fork (¬ (strD (rowLF [4, 116, 105, 99, 107]) = strD (at2F A0 0))) (
 ∀ _ : Nat, ∀ _ : Nat, Fork (¬ (strD (rowLF [7, 100, 101, 108, 105, 118, 101, 114]) = strD (at2F A0 0))) (
 ∀ _ : Nat, ∀ _ : Nat, Fork (¬ (strD (rowLF [4, 100, 114, 111, 112]) = strD (at2F A0 0))) (
 ∀ _ : Nat, ∀ _ : Nat, Fork (¬ (strD (rowLF [6, 100, 111, 117, 98, 108, 101]) = strD (at2F A0 0))) (
 ∀ _ : Nat, ∀ _ : Nat, Fork (¬ (strD (rowLF [6, 116, 97, 109, 112, 101, 114]) = strD (at2F A0 0))) (
 ∀ _ : Nat, ∀ _ : Nat, Fork (¬ (strD (rowLF [6, 105, 110, 106, 101, 99, 116]) = strD (at2F A0 0))) (
 ∀ _ : Nat, ∀ _ : Nat, Fork (¬ (strD (rowLF [6, 99, 114, 101, 97, 116, 101]) = strD (at2F A0 0))) (
 ∀ _ : Nat, ∀ _ : Nat, Fork (¬ (strD (rowLF [3, 97, 100, 100]) = strD (at2F A0 0))) (
 ∀ _ : Nat, ∀ _ : Nat, Fork (¬ (strD (rowLF [4, 107, 105, 99, 107]) = strD (at2F A0 0))) (
 ∀ _ : Nat, ∀ _ : Nat, Fork (¬ (strD (rowLF [5, 108, 101, 97, 118, 101]) = strD (at2F A0 0))) (
 ∀ _ : Nat, ∀ _ : Nat, Fork (¬ (strD (rowLF [5, 102, 114, 97, 109, 101]) = strD (at2F A0 0))) (
 Post (.tuple #[.agg #[.int .u8 0, .int .u8 0, .int .u8 0, .int .u8 0, .int .u8 0, .int .i64 0, .int .u64 0, .slice none 0 0], .int .i64 2]) [p0, sliHP true 9 1 v0.v (Int.toNat x0) (tabL (Int.toNat x0) [colV 1 (fun j => .string ⟨(strD (at2F A0 j)).toArray⟩)])]) (
 Need (0 ≤ x0) (
 Fork (¬ (x0 = 3)) (
 Post (.tuple #[.agg #[.int .u8 0, .int .u8 0, .int .u8 0, .int .u8 0, .int .u8 0, .int .i64 0, .int .u64 0, .slice none 0 0], .int .i64 2]) [p0, sliHP true 9 1 v0.v (Int.toNat x0) (tabL (Int.toNat x0) [colV 1 (fun j => .string ⟨(strD (at2F A0 j)).toArray⟩)])]) (
 ∀ _ : Nat, Need (1 < x0) (
 ∃ post, Meets P 65 [.string ⟨(strD (at2F A0 1)).toArray⟩] [] post ∧
 ∀ x hs, post x hs → ∃ x1 : Int, ∃ x2 : Int, ∃ q0 : Bool, x = .tuple #[.agg #[.int .u8 x1, .int .u8 x2], .bool q0] ∧ hs = [] ∧
 Fork (q0 = true) (
 Need (2 < x0) (
 ∃ post, Meets P 68 [.string ⟨(strD (at2F A0 2)).toArray⟩] [p0] post ∧
 ∀ x hs, post x hs → ∃ x3 : Int, ∃ q1 : Bool, ∃ p1 : HP, x = .tuple #[(bslV x3), .bool q1] ∧ hs = [p1] ∧
 Fork (¬ (q1 = true)) (
 Post (.tuple #[.agg #[.int .u8 0, .int .u8 0, .int .u8 0, .int .u8 0, .int .u8 0, .int .i64 0, .int .u64 0, .slice none 0 0], .int .i64 5]) [p1, sliHP true 9 1 v0.v (Int.toNat x0) (tabL (Int.toNat x0) [colV 1 (fun j => .string ⟨(strD (at2F A0 j)).toArray⟩)])]) (
 Post (.tuple #[.agg #[.int .u8 15, .int .u8 x1, .int .u8 x2, .int .u8 0, .int .u8 0, .int .i64 0, .int .u64 0, (bslV x3)], .int .i64 0]) [p1, sliHP true 9 1 v0.v (Int.toNat x0) (tabL (Int.toNat x0) [colV 1 (fun j => .string ⟨(strD (at2F A0 j)).toArray⟩)])]))) (
 Post (.tuple #[.agg #[.int .u8 0, .int .u8 0, .int .u8 0, .int .u8 0, .int .u8 0, .int .i64 0, .int .u64 0, .slice none 0 0], .int .i64 5]) [p0, sliHP true 9 1 v0.v (Int.toNat x0) (tabL (Int.toNat x0) [colV 1 (fun j => .string ⟨(strD (at2F A0 j)).toArray⟩)])])))))) (
 Need (0 ≤ x0) (
 Fork (¬ (x0 = 2)) (
 Post (.tuple #[.agg #[.int .u8 0, .int .u8 0, .int .u8 0, .int .u8 0, .int .u8 0, .int .i64 0, .int .u64 0, .slice none 0 0], .int .i64 2]) [p0, sliHP true 9 1 v0.v (Int.toNat x0) (tabL (Int.toNat x0) [colV 1 (fun j => .string ⟨(strD (at2F A0 j)).toArray⟩)])]) (
 ∀ _ : Nat, Need (1 < x0) (
 ∃ post, Meets P 65 [.string ⟨(strD (at2F A0 1)).toArray⟩] [] post ∧
 ∀ x hs, post x hs → ∃ x1 : Int, ∃ x2 : Int, ∃ q0 : Bool, x = .tuple #[.agg #[.int .u8 x1, .int .u8 x2], .bool q0] ∧ hs = [] ∧
 Fork (¬ (q0 = true)) (
 Post (.tuple #[.agg #[.int .u8 0, .int .u8 0, .int .u8 0, .int .u8 0, .int .u8 0, .int .i64 0, .int .u64 0, .slice none 0 0], .int .i64 5]) [p0, sliHP true 9 1 v0.v (Int.toNat x0) (tabL (Int.toNat x0) [colV 1 (fun j => .string ⟨(strD (at2F A0 j)).toArray⟩)])]) (
 Post (.tuple #[.agg #[.int .u8 14, .int .u8 x1, .int .u8 x2, .int .u8 0, .int .u8 0, .int .i64 0, .int .u64 0, .slice none 0 0], .int .i64 0]) [p0, sliHP true 9 1 v0.v (Int.toNat x0) (tabL (Int.toNat x0) [colV 1 (fun j => .string ⟨(strD (at2F A0 j)).toArray⟩)])])))))) (
 Need (0 ≤ x0) (
 Fork (¬ (x0 = 3)) (
 Post (.tuple #[.agg #[.int .u8 0, .int .u8 0, .int .u8 0, .int .u8 0, .int .u8 0, .int .i64 0, .int .u64 0, .slice none 0 0], .int .i64 2]) [p0, sliHP true 9 1 v0.v (Int.toNat x0) (tabL (Int.toNat x0) [colV 1 (fun j => .string ⟨(strD (at2F A0 j)).toArray⟩)])]) (
 ∀ _ : Nat, Need (1 < x0) (
 ∃ post, Meets P 65 [.string ⟨(strD (at2F A0 1)).toArray⟩] [] post ∧
 ∀ x hs, post x hs → ∃ x1 : Int, ∃ x2 : Int, ∃ q0 : Bool, x = .tuple #[.agg #[.int .u8 x1, .int .u8 x2], .bool q0] ∧ hs = [] ∧
 Fork (q0 = true) (
 Need (2 < x0) (
 ∃ post, Meets P 65 [.string ⟨(strD (at2F A0 2)).toArray⟩] [] post ∧
 ∀ x hs, post x hs → ∃ x3 : Int, ∃ x4 : Int, ∃ q1 : Bool, x = .tuple #[.agg #[.int .u8 x3, .int .u8 x4], .bool q1] ∧ hs = [] ∧
 Fork (¬ (q1 = true)) (
 Post (.tuple #[.agg #[.int .u8 0, .int .u8 0, .int .u8 0, .int .u8 0, .int .u8 0, .int .i64 0, .int .u64 0, .slice none 0 0], .int .i64 5]) [p0, sliHP true 9 1 v0.v (Int.toNat x0) (tabL (Int.toNat x0) [colV 1 (fun j => .string ⟨(strD (at2F A0 j)).toArray⟩)])]) (
 Post (.tuple #[.agg #[.int .u8 13, .int .u8 x1, .int .u8 x2, .int .u8 x3, .int .u8 x4, .int .i64 0, .int .u64 0, .slice none 0 0], .int .i64 0]) [p0, sliHP true 9 1 v0.v (Int.toNat x0) (tabL (Int.toNat x0) [colV 1 (fun j => .string ⟨(strD (at2F A0 j)).toArray⟩)])]))) (
 Post (.tuple #[.agg #[.int .u8 0, .int .u8 0, .int .u8 0, .int .u8 0, .int .u8 0, .int .i64 0, .int .u64 0, .slice none 0 0], .int .i64 5]) [p0, sliHP true 9 1 v0.v (Int.toNat x0) (tabL (Int.toNat x0) [colV 1 (fun j => .string ⟨(strD (at2F A0 j)).toArray⟩)])])))))) (
 Need (0 ≤ x0) (
 Fork (¬ (x0 = 3)) (
 Post (.tuple #[.agg #[.int .u8 0, .int .u8 0, .int .u8 0, .int .u8 0, .int .u8 0, .int .i64 0, .int .u64 0, .slice none 0 0], .int .i64 2]) [p0, sliHP true 9 1 v0.v (Int.toNat x0) (tabL (Int.toNat x0) [colV 1 (fun j => .string ⟨(strD (at2F A0 j)).toArray⟩)])]) (
 ∀ _ : Nat, Need (1 < x0) (
 ∃ post, Meets P 65 [.string ⟨(strD (at2F A0 1)).toArray⟩] [] post ∧
 ∀ x hs, post x hs → ∃ x1 : Int, ∃ x2 : Int, ∃ q0 : Bool, x = .tuple #[.agg #[.int .u8 x1, .int .u8 x2], .bool q0] ∧ hs = [] ∧
 Fork (q0 = true) (
 Need (2 < x0) (
 ∃ post, Meets P 65 [.string ⟨(strD (at2F A0 2)).toArray⟩] [] post ∧
 ∀ x hs, post x hs → ∃ x3 : Int, ∃ x4 : Int, ∃ q1 : Bool, x = .tuple #[.agg #[.int .u8 x3, .int .u8 x4], .bool q1] ∧ hs = [] ∧
 Fork (¬ (q1 = true)) (
 Post (.tuple #[.agg #[.int .u8 0, .int .u8 0, .int .u8 0, .int .u8 0, .int .u8 0, .int .i64 0, .int .u64 0, .slice none 0 0], .int .i64 5]) [p0, sliHP true 9 1 v0.v (Int.toNat x0) (tabL (Int.toNat x0) [colV 1 (fun j => .string ⟨(strD (at2F A0 j)).toArray⟩)])]) (
 Post (.tuple #[.agg #[.int .u8 12, .int .u8 x1, .int .u8 x2, .int .u8 x3, .int .u8 x4, .int .i64 0, .int .u64 0, .slice none 0 0], .int .i64 0]) [p0, sliHP true 9 1 v0.v (Int.toNat x0) (tabL (Int.toNat x0) [colV 1 (fun j => .string ⟨(strD (at2F A0 j)).toArray⟩)])]))) (
 Post (.tuple #[.agg #[.int .u8 0, .int .u8 0, .int .u8 0, .int .u8 0, .int .u8 0, .int .i64 0, .int .u64 0, .slice none 0 0], .int .i64 5]) [p0, sliHP true 9 1 v0.v (Int.toNat x0) (tabL (Int.toNat x0) [colV 1 (fun j => .string ⟨(strD (at2F A0 j)).toArray⟩)])])))))) (
 Need (0 ≤ x0) (
 Fork (¬ (x0 = 2)) (
 Post (.tuple #[.agg #[.int .u8 0, .int .u8 0, .int .u8 0, .int .u8 0, .int .u8 0, .int .i64 0, .int .u64 0, .slice none 0 0], .int .i64 2]) [p0, sliHP true 9 1 v0.v (Int.toNat x0) (tabL (Int.toNat x0) [colV 1 (fun j => .string ⟨(strD (at2F A0 j)).toArray⟩)])]) (
 ∀ _ : Nat, Need (1 < x0) (
 ∃ post, Meets P 65 [.string ⟨(strD (at2F A0 1)).toArray⟩] [] post ∧
 ∀ x hs, post x hs → ∃ x1 : Int, ∃ x2 : Int, ∃ q0 : Bool, x = .tuple #[.agg #[.int .u8 x1, .int .u8 x2], .bool q0] ∧ hs = [] ∧
 Fork (¬ (q0 = true)) (
 Post (.tuple #[.agg #[.int .u8 0, .int .u8 0, .int .u8 0, .int .u8 0, .int .u8 0, .int .i64 0, .int .u64 0, .slice none 0 0], .int .i64 5]) [p0, sliHP true 9 1 v0.v (Int.toNat x0) (tabL (Int.toNat x0) [colV 1 (fun j => .string ⟨(strD (at2F A0 j)).toArray⟩)])]) (
 Post (.tuple #[.agg #[.int .u8 11, .int .u8 x1, .int .u8 x2, .int .u8 0, .int .u8 0, .int .i64 0, .int .u64 0, .slice none 0 0], .int .i64 0]) [p0, sliHP true 9 1 v0.v (Int.toNat x0) (tabL (Int.toNat x0) [colV 1 (fun j => .string ⟨(strD (at2F A0 j)).toArray⟩)])])))))) (
 Need (0 ≤ x0) (
 Fork (¬ (x0 = 3)) (
 Post (.tuple #[.agg #[.int .u8 0, .int .u8 0, .int .u8 0, .int .u8 0, .int .u8 0, .int .i64 0, .int .u64 0, .slice none 0 0], .int .i64 2]) [p0, sliHP true 9 1 v0.v (Int.toNat x0) (tabL (Int.toNat x0) [colV 1 (fun j => .string ⟨(strD (at2F A0 j)).toArray⟩)])]) (
 ∀ _ : Nat, Need (1 < x0) (
 ∃ post, Meets P 65 [.string ⟨(strD (at2F A0 1)).toArray⟩] [] post ∧
 ∀ x hs, post x hs → ∃ x1 : Int, ∃ x2 : Int, ∃ q0 : Bool, x = .tuple #[.agg #[.int .u8 x1, .int .u8 x2], .bool q0] ∧ hs = [] ∧
 Fork (q0 = true) (
 Need (2 < x0) (
 ∃ post, Meets P 68 [.string ⟨(strD (at2F A0 2)).toArray⟩] [p0] post ∧
 ∀ x hs, post x hs → ∃ x3 : Int, ∃ q1 : Bool, ∃ p1 : HP, x = .tuple #[(bslV x3), .bool q1] ∧ hs = [p1] ∧
 Fork (¬ (q1 = true)) (
 Post (.tuple #[.agg #[.int .u8 0, .int .u8 0, .int .u8 0, .int .u8 0, .int .u8 0, .int .i64 0, .int .u64 0, .slice none 0 0], .int .i64 5]) [p1, sliHP true 9 1 v0.v (Int.toNat x0) (tabL (Int.toNat x0) [colV 1 (fun j => .string ⟨(strD (at2F A0 j)).toArray⟩)])]) (
 Post (.tuple #[.agg #[.int .u8 10, .int .u8 x1, .int .u8 x2, .int .u8 0, .int .u8 0, .int .i64 0, .int .u64 0, (bslV x3)], .int .i64 0]) [p1, sliHP true 9 1 v0.v (Int.toNat x0) (tabL (Int.toNat x0) [colV 1 (fun j => .string ⟨(strD (at2F A0 j)).toArray⟩)])]))) (
 Post (.tuple #[.agg #[.int .u8 0, .int .u8 0, .int .u8 0, .int .u8 0, .int .u8 0, .int .i64 0, .int .u64 0, .slice none 0 0], .int .i64 5]) [p0, sliHP true 9 1 v0.v (Int.toNat x0) (tabL (Int.toNat x0) [colV 1 (fun j => .string ⟨(strD (at2F A0 j)).toArray⟩)])])))))) (
 Need (0 ≤ x0) (
 Fork (¬ (x0 = 3)) (
 Post (.tuple #[.agg #[.int .u8 0, .int .u8 0, .int .u8 0, .int .u8 0, .int .u8 0, .int .i64 0, .int .u64 0, .slice none 0 0], .int .i64 2]) [p0, sliHP true 9 1 v0.v (Int.toNat x0) (tabL (Int.toNat x0) [colV 1 (fun j => .string ⟨(strD (at2F A0 j)).toArray⟩)])]) (
 ∀ _ : Nat, Need (1 < x0) (
 ∃ post, Meets P 66 [.string ⟨(strD (at2F A0 1)).toArray⟩] [] post ∧
 ∀ x hs, post x hs → ∃ x1 : Int, ∃ q0 : Bool, x = .tuple #[.int .i64 x1, .bool q0] ∧ hs = [] ∧
 Fork (q0 = true) (
 Need (2 < x0) (
 ∃ post, Meets P 67 [.string ⟨(strD (at2F A0 2)).toArray⟩, .int .u64 18446744073709551615] [] post ∧
 ∀ x hs, post x hs → ∃ x2 : Int, ∃ q1 : Bool, x = .tuple #[.int .u64 x2, .bool q1] ∧ hs = [] ∧
 Fork (¬ (q1 = true)) (
 Post (.tuple #[.agg #[.int .u8 0, .int .u8 0, .int .u8 0, .int .u8 0, .int .u8 0, .int .i64 0, .int .u64 0, .slice none 0 0], .int .i64 5]) [p0, sliHP true 9 1 v0.v (Int.toNat x0) (tabL (Int.toNat x0) [colV 1 (fun j => .string ⟨(strD (at2F A0 j)).toArray⟩)])]) (
 Post (.tuple #[.agg #[.int .u8 9, .int .u8 0, .int .u8 0, .int .u8 0, .int .u8 0, .int .i64 x1, .int .u64 x2, .slice none 0 0], .int .i64 0]) [p0, sliHP true 9 1 v0.v (Int.toNat x0) (tabL (Int.toNat x0) [colV 1 (fun j => .string ⟨(strD (at2F A0 j)).toArray⟩)])]))) (
 Post (.tuple #[.agg #[.int .u8 0, .int .u8 0, .int .u8 0, .int .u8 0, .int .u8 0, .int .i64 0, .int .u64 0, .slice none 0 0], .int .i64 5]) [p0, sliHP true 9 1 v0.v (Int.toNat x0) (tabL (Int.toNat x0) [colV 1 (fun j => .string ⟨(strD (at2F A0 j)).toArray⟩)])])))))) (
 Need (0 ≤ x0) (
 Fork (¬ (x0 = 2)) (
 Post (.tuple #[.agg #[.int .u8 0, .int .u8 0, .int .u8 0, .int .u8 0, .int .u8 0, .int .i64 0, .int .u64 0, .slice none 0 0], .int .i64 2]) [p0, sliHP true 9 1 v0.v (Int.toNat x0) (tabL (Int.toNat x0) [colV 1 (fun j => .string ⟨(strD (at2F A0 j)).toArray⟩)])]) (
 ∀ _ : Nat, Need (1 < x0) (
 ∃ post, Meets P 66 [.string ⟨(strD (at2F A0 1)).toArray⟩] [] post ∧
 ∀ x hs, post x hs → ∃ x1 : Int, ∃ q0 : Bool, x = .tuple #[.int .i64 x1, .bool q0] ∧ hs = [] ∧
 Fork (¬ (q0 = true)) (
 Post (.tuple #[.agg #[.int .u8 0, .int .u8 0, .int .u8 0, .int .u8 0, .int .u8 0, .int .i64 0, .int .u64 0, .slice none 0 0], .int .i64 5]) [p0, sliHP true 9 1 v0.v (Int.toNat x0) (tabL (Int.toNat x0) [colV 1 (fun j => .string ⟨(strD (at2F A0 j)).toArray⟩)])]) (
 Post (.tuple #[.agg #[.int .u8 8, .int .u8 0, .int .u8 0, .int .u8 0, .int .u8 0, .int .i64 x1, .int .u64 0, .slice none 0 0], .int .i64 0]) [p0, sliHP true 9 1 v0.v (Int.toNat x0) (tabL (Int.toNat x0) [colV 1 (fun j => .string ⟨(strD (at2F A0 j)).toArray⟩)])])))))) (
 Need (0 ≤ x0) (
 Fork (¬ (x0 = 2)) (
 Post (.tuple #[.agg #[.int .u8 0, .int .u8 0, .int .u8 0, .int .u8 0, .int .u8 0, .int .i64 0, .int .u64 0, .slice none 0 0], .int .i64 2]) [p0, sliHP true 9 1 v0.v (Int.toNat x0) (tabL (Int.toNat x0) [colV 1 (fun j => .string ⟨(strD (at2F A0 j)).toArray⟩)])]) (
 ∀ _ : Nat, Need (1 < x0) (
 ∃ post, Meets P 66 [.string ⟨(strD (at2F A0 1)).toArray⟩] [] post ∧
 ∀ x hs, post x hs → ∃ x1 : Int, ∃ q0 : Bool, x = .tuple #[.int .i64 x1, .bool q0] ∧ hs = [] ∧
 Fork (¬ (q0 = true)) (
 Post (.tuple #[.agg #[.int .u8 0, .int .u8 0, .int .u8 0, .int .u8 0, .int .u8 0, .int .i64 0, .int .u64 0, .slice none 0 0], .int .i64 5]) [p0, sliHP true 9 1 v0.v (Int.toNat x0) (tabL (Int.toNat x0) [colV 1 (fun j => .string ⟨(strD (at2F A0 j)).toArray⟩)])]) (
 Post (.tuple #[.agg #[.int .u8 7, .int .u8 0, .int .u8 0, .int .u8 0, .int .u8 0, .int .i64 x1, .int .u64 0, .slice none 0 0], .int .i64 0]) [p0, sliHP true 9 1 v0.v (Int.toNat x0) (tabL (Int.toNat x0) [colV 1 (fun j => .string ⟨(strD (at2F A0 j)).toArray⟩)])])))))) (
 Need (0 ≤ x0) (
 Fork (¬ (x0 = 2)) (
 Post (.tuple #[.agg #[.int .u8 0, .int .u8 0, .int .u8 0, .int .u8 0, .int .u8 0, .int .i64 0, .int .u64 0, .slice none 0 0], .int .i64 2]) [p0, sliHP true 9 1 v0.v (Int.toNat x0) (tabL (Int.toNat x0) [colV 1 (fun j => .string ⟨(strD (at2F A0 j)).toArray⟩)])]) (
 ∀ _ : Nat, Need (1 < x0) (
 ∃ post, Meets P 66 [.string ⟨(strD (at2F A0 1)).toArray⟩] [] post ∧
 ∀ x hs, post x hs → ∃ x1 : Int, ∃ q0 : Bool, x = .tuple #[.int .i64 x1, .bool q0] ∧ hs = [] ∧
 Fork (¬ (q0 = true)) (
 Post (.tuple #[.agg #[.int .u8 0, .int .u8 0, .int .u8 0, .int .u8 0, .int .u8 0, .int .i64 0, .int .u64 0, .slice none 0 0], .int .i64 5]) [p0, sliHP true 9 1 v0.v (Int.toNat x0) (tabL (Int.toNat x0) [colV 1 (fun j => .string ⟨(strD (at2F A0 j)).toArray⟩)])]) (
 Post (.tuple #[.agg #[.int .u8 6, .int .u8 0, .int .u8 0, .int .u8 0, .int .u8 0, .int .i64 x1, .int .u64 0, .slice none 0 0], .int .i64 0]) [p0, sliHP true 9 1 v0.v (Int.toNat x0) (tabL (Int.toNat x0) [colV 1 (fun j => .string ⟨(strD (at2F A0 j)).toArray⟩)])])))))) (
 Need (0 ≤ x0) (
 Fork (¬ (x0 = 2)) (
 Post (.tuple #[.agg #[.int .u8 0, .int .u8 0, .int .u8 0, .int .u8 0, .int .u8 0, .int .i64 0, .int .u64 0, .slice none 0 0], .int .i64 2]) [p0, sliHP true 9 1 v0.v (Int.toNat x0) (tabL (Int.toNat x0) [colV 1 (fun j => .string ⟨(strD (at2F A0 j)).toArray⟩)])]) (
 ∀ _ : Nat, Need (1 < x0) (
 ∃ post, Meets P 66 [.string ⟨(strD (at2F A0 1)).toArray⟩] [] post ∧
 ∀ x hs, post x hs → ∃ x1 : Int, ∃ q0 : Bool, x = .tuple #[.int .i64 x1, .bool q0] ∧ hs = [] ∧
 Fork (¬ (q0 = true)) (
 Post (.tuple #[.agg #[.int .u8 0, .int .u8 0, .int .u8 0, .int .u8 0, .int .u8 0, .int .i64 0, .int .u64 0, .slice none 0 0], .int .i64 5]) [p0, sliHP true 9 1 v0.v (Int.toNat x0) (tabL (Int.toNat x0) [colV 1 (fun j => .string ⟨(strD (at2F A0 j)).toArray⟩)])]) (
 Post (.tuple #[.agg #[.int .u8 5, .int .u8 0, .int .u8 0, .int .u8 0, .int .u8 0, .int .i64 x1, .int .u64 0, .slice none 0 0], .int .i64 0]) [p0, sliHP true 9 1 v0.v (Int.toNat x0) (tabL (Int.toNat x0) [colV 1 (fun j => .string ⟨(strD (at2F A0 j)).toArray⟩)])])))))) (
 Need (0 ≤ x0) (
 Fork (¬ (x0 = 2)) (
 Post (.tuple #[.agg #[.int .u8 0, .int .u8 0, .int .u8 0, .int .u8 0, .int .u8 0, .int .i64 0, .int .u64 0, .slice none 0 0], .int .i64 2]) [p0, sliHP true 9 1 v0.v (Int.toNat x0) (tabL (Int.toNat x0) [colV 1 (fun j => .string ⟨(strD (at2F A0 j)).toArray⟩)])]) (
 ∀ _ : Nat, Need (1 < x0) (
 ∃ post, Meets P 65 [.string ⟨(strD (at2F A0 1)).toArray⟩] [] post ∧
 ∀ x hs, post x hs → ∃ x1 : Int, ∃ x2 : Int, ∃ q0 : Bool, x = .tuple #[.agg #[.int .u8 x1, .int .u8 x2], .bool q0] ∧ hs = [] ∧
 Fork (¬ (q0 = true)) (
 Post (.tuple #[.agg #[.int .u8 0, .int .u8 0, .int .u8 0, .int .u8 0, .int .u8 0, .int .i64 0, .int .u64 0, .slice none 0 0], .int .i64 5]) [p0, sliHP true 9 1 v0.v (Int.toNat x0) (tabL (Int.toNat x0) [colV 1 (fun j => .string ⟨(strD (at2F A0 j)).toArray⟩)])]) (
 Post (.tuple #[.agg #[.int .u8 4, .int .u8 x1, .int .u8 x2, .int .u8 0, .int .u8 0, .int .i64 0, .int .u64 0, .slice none 0 0], .int .i64 0]) [p0, sliHP true 9 1 v0.v (Int.toNat x0) (tabL (Int.toNat x0) [colV 1 (fun j => .string ⟨(strD (at2F A0 j)).toArray⟩)])])))))) (
 Need (0 ≤ x0) (
 Fork (¬ (x0 = 2)) (
 Post (.tuple #[.agg #[.int .u8 0, .int .u8 0, .int .u8 0, .int .u8 0, .int .u8 0, .int .i64 0, .int .u64 0, .slice none 0 0], .int .i64 2]) [p0, sliHP true 9 1 v0.v (Int.toNat x0) (tabL (Int.toNat x0) [colV 1 (fun j => .string ⟨(strD (at2F A0 j)).toArray⟩)])]) (
 ∀ _ : Nat, Need (1 < x0) (
 ∃ post, Meets P 65 [.string ⟨(strD (at2F A0 1)).toArray⟩] [] post ∧
 ∀ x hs, post x hs → ∃ x1 : Int, ∃ x2 : Int, ∃ q0 : Bool, x = .tuple #[.agg #[.int .u8 x1, .int .u8 x2], .bool q0] ∧ hs = [] ∧
 Fork (¬ (q0 = true)) (
 Post (.tuple #[.agg #[.int .u8 0, .int .u8 0, .int .u8 0, .int .u8 0, .int .u8 0, .int .i64 0, .int .u64 0, .slice none 0 0], .int .i64 5]) [p0, sliHP true 9 1 v0.v (Int.toNat x0) (tabL (Int.toNat x0) [colV 1 (fun j => .string ⟨(strD (at2F A0 j)).toArray⟩)])]) (
 Post (.tuple #[.agg #[.int .u8 3, .int .u8 x1, .int .u8 x2, .int .u8 0, .int .u8 0, .int .i64 0, .int .u64 0, .slice none 0 0], .int .i64 0]) [p0, sliHP true 9 1 v0.v (Int.toNat x0) (tabL (Int.toNat x0) [colV 1 (fun j => .string ⟨(strD (at2F A0 j)).toArray⟩)])])))))) (
 Need (0 ≤ x0) (
 Fork (¬ (x0 = 2)) (
 Post (.tuple #[.agg #[.int .u8 0, .int .u8 0, .int .u8 0, .int .u8 0, .int .u8 0, .int .i64 0, .int .u64 0, .slice none 0 0], .int .i64 2]) [p0, sliHP true 9 1 v0.v (Int.toNat x0) (tabL (Int.toNat x0) [colV 1 (fun j => .string ⟨(strD (at2F A0 j)).toArray⟩)])]) (
 ∀ _ : Nat, Need (1 < x0) (
 ∃ post, Meets P 65 [.string ⟨(strD (at2F A0 1)).toArray⟩] [] post ∧
 ∀ x hs, post x hs → ∃ x1 : Int, ∃ x2 : Int, ∃ q0 : Bool, x = .tuple #[.agg #[.int .u8 x1, .int .u8 x2], .bool q0] ∧ hs = [] ∧
 Fork (¬ (q0 = true)) (
 Post (.tuple #[.agg #[.int .u8 0, .int .u8 0, .int .u8 0, .int .u8 0, .int .u8 0, .int .i64 0, .int .u64 0, .slice none 0 0], .int .i64 5]) [p0, sliHP true 9 1 v0.v (Int.toNat x0) (tabL (Int.toNat x0) [colV 1 (fun j => .string ⟨(strD (at2F A0 j)).toArray⟩)])]) (
 Post (.tuple #[.agg #[.int .u8 2, .int .u8 x1, .int .u8 x2, .int .u8 0, .int .u8 0, .int .i64 0, .int .u64 0, .slice none 0 0], .int .i64 0]) [p0, sliHP true 9 1 v0.v (Int.toNat x0) (tabL (Int.toNat x0) [colV 1 (fun j => .string ⟨(strD (at2F A0 j)).toArray⟩)])])))))) (
 Need (0 ≤ x0) (
 Fork (¬ (x0 = 3)) (
 Post (.tuple #[.agg #[.int .u8 0, .int .u8 0, .int .u8 0, .int .u8 0, .int .u8 0, .int .i64 0, .int .u64 0, .slice none 0 0], .int .i64 2]) [p0, sliHP true 9 1 v0.v (Int.toNat x0) (tabL (Int.toNat x0) [colV 1 (fun j => .string ⟨(strD (at2F A0 j)).toArray⟩)])]) (
 ∀ _ : Nat, Need (1 < x0) (
 ∃ post, Meets P 65 [.string ⟨(strD (at2F A0 1)).toArray⟩] [] post ∧
 ∀ x hs, post x hs → ∃ x1 : Int, ∃ x2 : Int, ∃ q0 : Bool, x = .tuple #[.agg #[.int .u8 x1, .int .u8 x2], .bool q0] ∧ hs = [] ∧
 Fork (q0 = true) (
 Need (2 < x0) (
 ∃ post, Meets P 66 [.string ⟨(strD (at2F A0 2)).toArray⟩] [] post ∧
 ∀ x hs, post x hs → ∃ x3 : Int, ∃ q1 : Bool, x = .tuple #[.int .i64 x3, .bool q1] ∧ hs = [] ∧
 Fork (¬ (q1 = true)) (
 Post (.tuple #[.agg #[.int .u8 0, .int .u8 0, .int .u8 0, .int .u8 0, .int .u8 0, .int .i64 0, .int .u64 0, .slice none 0 0], .int .i64 5]) [p0, sliHP true 9 1 v0.v (Int.toNat x0) (tabL (Int.toNat x0) [colV 1 (fun j => .string ⟨(strD (at2F A0 j)).toArray⟩)])]) (
 Post (.tuple #[.agg #[.int .u8 1, .int .u8 x1, .int .u8 x2, .int .u8 0, .int .u8 0, .int .i64 x3, .int .u64 0, .slice none 0 0], .int .i64 0]) [p0, sliHP true 9 1 v0.v (Int.toNat x0) (tabL (Int.toNat x0) [colV 1 (fun j => .string ⟨(strD (at2F A0 j)).toArray⟩)])]))) (
 Post (.tuple #[.agg #[.int .u8 0, .int .u8 0, .int .u8 0, .int .u8 0, .int .u8 0, .int .i64 0, .int .u64 0, .slice none 0 0], .int .i64 5]) [p0, sliHP true 9 1 v0.v (Int.toNat x0) (tabL (Int.toNat x0) [colV 1 (fun j => .string ⟨(strD (at2F A0 j)).toArray⟩)])]))))))
theorem vc_rone (P : Program) (Post : Value → List HP → Prop) (x0 : Int) (A0 : Nat → Int) (v0 : V1) (p0 : HP) (L : Nat → LC) : VC P (fun v hs => Post v (hs.take 2)) fm_rone { iv := [x0], av := [A0], bo := [], bv := [], vv := [v0], pv := [p0] } L = st_rone P Post x0 A0 v0 p0 := by kernel_rfl
theorem run_rone : runF cxO 31 ([SV.vv 0]) ([Ck.abs 0, Ck.sli true 0 9 1 (E.var 0) [{ ck := CK.str, w := 1, a := E.avar 0 }]]) ({ b := 0, v := 1, i := 1, a := 1, bo := 0, p := 1, r := 0 }) Tryz.f31 = fm_rone := rfl
end Go.RX.Su
