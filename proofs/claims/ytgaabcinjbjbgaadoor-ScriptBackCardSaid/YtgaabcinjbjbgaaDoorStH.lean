/- Reading of moves, the program's side: what the functions leave to be shown (M); printed by a program of ours (wip/tools). -/
import Derived.Test.YtgaabcinjbjbgaaDoorM25
import Derived.Test.YtgaabcinjbjbgaaDoorM36
import Derived.Test.YtgaabcinjbjbgaaDoorM26

namespace Go.RX.St
open Go.RX Go.Proofs
noncomputable def cxM : Ctx := { T := TT, FT := FT, callees := calleesM }
set_option maxRecDepth 100000
noncomputable def fm_pmove : F := runF cxM 31 ([SV.vv 0]) ([Ck.abs 0, Ck.abs 1, Ck.sli true 0 9 1 (E.var 0) [{ ck := CK.str, w := 1, a := E.avar 0 }]]) ({ b := 0, v := 1, i := 1, a := 1, bo := 0, p := 2, r := 0 }) Tryd.f31
def st_pmove (P : Program) (Post : Value → List HP → Prop) (x0 : Int) (A0 : Nat → Int) (v0 : V1) (p0 : HP) (p1 : HP) : Prop :=
 ∀ _ : Nat, ∃ post, Meets P 20 [.int .u8 1] [] post ∧
 ∀ x hs, post x hs → x = .tuple #[.string ⟨#[100, 105, 97, 108]⟩, .string ⟨#[100, 110]⟩, .bool true] ∧ hs = [] ∧
 Need (0 < x0) (
 Need ((¬ (strD (rowLF [4, 100, 105, 97, 108]) = strD (at2F A0 0))) ∨ (0 ≤ x0)) (
 Fork ((strD (rowLF [4, 100, 105, 97, 108]) = strD (at2F A0 0)) ∧ (¬ (x0 = 3))) (
 Post (.tuple #[.agg #[.int .u8 0, .int .u8 0, .int .u8 0, .int .u8 0, .int .u8 0, .int .i64 0, .int .u64 0, .slice none 0 0], .int .i64 2]) [p0, p1, sliHP true 9 1 v0.v (Int.toNat x0) (tabL (Int.toNat x0) [colV 1 (fun j => .string ⟨(strD (at2F A0 j)).toArray⟩)])]) (
 Fork (¬ (strD (rowLF [4, 100, 105, 97, 108]) = strD (at2F A0 0))) (
 ∃ post, Meets P 20 [.int .u8 2] [] post ∧
 ∀ x hs, post x hs → x = .tuple #[.string ⟨#[97, 110, 115, 119, 101, 114]⟩, .string ⟨#[100]⟩, .bool true] ∧ hs = [] ∧
 Need ((¬ (strD (rowLF [6, 97, 110, 115, 119, 101, 114]) = strD (at2F A0 0))) ∨ (0 ≤ x0)) (
 Fork ((strD (rowLF [6, 97, 110, 115, 119, 101, 114]) = strD (at2F A0 0)) ∧ (¬ (x0 = 2))) (
 Post (.tuple #[.agg #[.int .u8 0, .int .u8 0, .int .u8 0, .int .u8 0, .int .u8 0, .int .i64 0, .int .u64 0, .slice none 0 0], .int .i64 2]) [p0, p1, sliHP true 9 1 v0.v (Int.toNat x0) (tabL (Int.toNat x0) [colV 1 (fun j => .string ⟨(strD (at2F A0 j)).toArray⟩)])]) (
 Fork (¬ (strD (rowLF [6, 97, 110, 115, 119, 101, 114]) = strD (at2F A0 0))) (
 ∃ post, Meets P 20 [.int .u8 3] [] post ∧
 ∀ x hs, post x hs → x = .tuple #[.string ⟨#[100, 101, 99, 108, 105, 110, 101]⟩, .string ⟨#[100]⟩, .bool true] ∧ hs = [] ∧
 Need ((¬ (strD (rowLF [7, 100, 101, 99, 108, 105, 110, 101]) = strD (at2F A0 0))) ∨ (0 ≤ x0)) (
 Fork ((strD (rowLF [7, 100, 101, 99, 108, 105, 110, 101]) = strD (at2F A0 0)) ∧ (¬ (x0 = 2))) (
 Post (.tuple #[.agg #[.int .u8 0, .int .u8 0, .int .u8 0, .int .u8 0, .int .u8 0, .int .i64 0, .int .u64 0, .slice none 0 0], .int .i64 2]) [p0, p1, sliHP true 9 1 v0.v (Int.toNat x0) (tabL (Int.toNat x0) [colV 1 (fun j => .string ⟨(strD (at2F A0 j)).toArray⟩)])]) (
 Fork (¬ (strD (rowLF [7, 100, 101, 99, 108, 105, 110, 101]) = strD (at2F A0 0))) (
 ∃ post, Meets P 20 [.int .u8 4] [] post ∧
 ∀ x hs, post x hs → x = .tuple #[.string ⟨#[104, 97, 110, 103]⟩, .string ⟨#[100]⟩, .bool true] ∧ hs = [] ∧
 Need ((¬ (strD (rowLF [4, 104, 97, 110, 103]) = strD (at2F A0 0))) ∨ (0 ≤ x0)) (
 Fork ((strD (rowLF [4, 104, 97, 110, 103]) = strD (at2F A0 0)) ∧ (¬ (x0 = 2))) (
 Post (.tuple #[.agg #[.int .u8 0, .int .u8 0, .int .u8 0, .int .u8 0, .int .u8 0, .int .i64 0, .int .u64 0, .slice none 0 0], .int .i64 2]) [p0, p1, sliHP true 9 1 v0.v (Int.toNat x0) (tabL (Int.toNat x0) [colV 1 (fun j => .string ⟨(strD (at2F A0 j)).toArray⟩)])]) (
 Fork (¬ (strD (rowLF [4, 104, 97, 110, 103]) = strD (at2F A0 0))) (
 ∃ post, Meets P 20 [.int .u8 5] [] post ∧
 ∀ x hs, post x hs → x = .tuple #[.string ⟨#[116, 105, 99, 107]⟩, .string ⟨#[110]⟩, .bool true] ∧ hs = [] ∧
 Need ((¬ (strD (rowLF [4, 116, 105, 99, 107]) = strD (at2F A0 0))) ∨ (0 ≤ x0)) (
 Fork ((strD (rowLF [4, 116, 105, 99, 107]) = strD (at2F A0 0)) ∧ (¬ (x0 = 2))) (
 Post (.tuple #[.agg #[.int .u8 0, .int .u8 0, .int .u8 0, .int .u8 0, .int .u8 0, .int .i64 0, .int .u64 0, .slice none 0 0], .int .i64 2]) [p0, p1, sliHP true 9 1 v0.v (Int.toNat x0) (tabL (Int.toNat x0) [colV 1 (fun j => .string ⟨(strD (at2F A0 j)).toArray⟩)])]) (
 Fork (¬ (strD (rowLF [4, 116, 105, 99, 107]) = strD (at2F A0 0))) (
 ∃ post, Meets P 20 [.int .u8 6] [] post ∧
 ∀ x hs, post x hs → x = .tuple #[.string ⟨#[100, 101, 108, 105, 118, 101, 114]⟩, .string ⟨#[110]⟩, .bool true] ∧ hs = [] ∧
 Need ((¬ (strD (rowLF [7, 100, 101, 108, 105, 118, 101, 114]) = strD (at2F A0 0))) ∨ (0 ≤ x0)) (
 Fork ((strD (rowLF [7, 100, 101, 108, 105, 118, 101, 114]) = strD (at2F A0 0)) ∧ (¬ (x0 = 2))) (
 Post (.tuple #[.agg #[.int .u8 0, .int .u8 0, .int .u8 0, .int .u8 0, .int .u8 0, .int .i64 0, .int .u64 0, .slice none 0 0], .int .i64 2]) [p0, p1, sliHP true 9 1 v0.v (Int.toNat x0) (tabL (Int.toNat x0) [colV 1 (fun j => .string ⟨(strD (at2F A0 j)).toArray⟩)])]) (
 Fork (¬ (strD (rowLF [7, 100, 101, 108, 105, 118, 101, 114]) = strD (at2F A0 0))) (
 ∃ post, Meets P 20 [.int .u8 7] [] post ∧
 ∀ x hs, post x hs → x = .tuple #[.string ⟨#[100, 114, 111, 112]⟩, .string ⟨#[110]⟩, .bool true] ∧ hs = [] ∧
 Need ((¬ (strD (rowLF [4, 100, 114, 111, 112]) = strD (at2F A0 0))) ∨ (0 ≤ x0)) (
 Fork ((strD (rowLF [4, 100, 114, 111, 112]) = strD (at2F A0 0)) ∧ (¬ (x0 = 2))) (
 Post (.tuple #[.agg #[.int .u8 0, .int .u8 0, .int .u8 0, .int .u8 0, .int .u8 0, .int .i64 0, .int .u64 0, .slice none 0 0], .int .i64 2]) [p0, p1, sliHP true 9 1 v0.v (Int.toNat x0) (tabL (Int.toNat x0) [colV 1 (fun j => .string ⟨(strD (at2F A0 j)).toArray⟩)])]) (
 Fork (¬ (strD (rowLF [4, 100, 114, 111, 112]) = strD (at2F A0 0))) (
 ∃ post, Meets P 20 [.int .u8 8] [] post ∧
 ∀ x hs, post x hs → x = .tuple #[.string ⟨#[100, 111, 117, 98, 108, 101]⟩, .string ⟨#[110]⟩, .bool true] ∧ hs = [] ∧
 Need ((¬ (strD (rowLF [6, 100, 111, 117, 98, 108, 101]) = strD (at2F A0 0))) ∨ (0 ≤ x0)) (
 Fork ((strD (rowLF [6, 100, 111, 117, 98, 108, 101]) = strD (at2F A0 0)) ∧ (¬ (x0 = 2))) (
 Post (.tuple #[.agg #[.int .u8 0, .int .u8 0, .int .u8 0, .int .u8 0, .int .u8 0, .int .i64 0, .int .u64 0, .slice none 0 0], .int .i64 2]) [p0, p1, sliHP true 9 1 v0.v (Int.toNat x0) (tabL (Int.toNat x0) [colV 1 (fun j => .string ⟨(strD (at2F A0 j)).toArray⟩)])]) (
 Fork (¬ (strD (rowLF [6, 100, 111, 117, 98, 108, 101]) = strD (at2F A0 0))) (
 ∃ post, Meets P 20 [.int .u8 9] [] post ∧
 ∀ x hs, post x hs → x = .tuple #[.string ⟨#[116, 97, 109, 112, 101, 114]⟩, .string ⟨#[110, 99]⟩, .bool true] ∧ hs = [] ∧
 Need ((¬ (strD (rowLF [6, 116, 97, 109, 112, 101, 114]) = strD (at2F A0 0))) ∨ (0 ≤ x0)) (
 Fork ((strD (rowLF [6, 116, 97, 109, 112, 101, 114]) = strD (at2F A0 0)) ∧ (¬ (x0 = 3))) (
 Post (.tuple #[.agg #[.int .u8 0, .int .u8 0, .int .u8 0, .int .u8 0, .int .u8 0, .int .i64 0, .int .u64 0, .slice none 0 0], .int .i64 2]) [p0, p1, sliHP true 9 1 v0.v (Int.toNat x0) (tabL (Int.toNat x0) [colV 1 (fun j => .string ⟨(strD (at2F A0 j)).toArray⟩)])]) (
 Fork (¬ (strD (rowLF [6, 116, 97, 109, 112, 101, 114]) = strD (at2F A0 0))) (
 ∃ post, Meets P 20 [.int .u8 10] [] post ∧
 ∀ x hs, post x hs → x = .tuple #[.string ⟨#[105, 110, 106, 101, 99, 116]⟩, .string ⟨#[100, 98]⟩, .bool true] ∧ hs = [] ∧
 Need ((¬ (strD (rowLF [6, 105, 110, 106, 101, 99, 116]) = strD (at2F A0 0))) ∨ (0 ≤ x0)) (
 Fork ((strD (rowLF [6, 105, 110, 106, 101, 99, 116]) = strD (at2F A0 0)) ∧ (¬ (x0 = 3))) (
 Post (.tuple #[.agg #[.int .u8 0, .int .u8 0, .int .u8 0, .int .u8 0, .int .u8 0, .int .i64 0, .int .u64 0, .slice none 0 0], .int .i64 2]) [p0, p1, sliHP true 9 1 v0.v (Int.toNat x0) (tabL (Int.toNat x0) [colV 1 (fun j => .string ⟨(strD (at2F A0 j)).toArray⟩)])]) (
 Fork (¬ (strD (rowLF [6, 105, 110, 106, 101, 99, 116]) = strD (at2F A0 0))) (
 ∃ post, Meets P 20 [.int .u8 11] [] post ∧
 ∀ x hs, post x hs → x = .tuple #[.string ⟨#[99, 114, 101, 97, 116, 101]⟩, .string ⟨#[100]⟩, .bool true] ∧ hs = [] ∧
 Need ((¬ (strD (rowLF [6, 99, 114, 101, 97, 116, 101]) = strD (at2F A0 0))) ∨ (0 ≤ x0)) (
 Fork ((strD (rowLF [6, 99, 114, 101, 97, 116, 101]) = strD (at2F A0 0)) ∧ (¬ (x0 = 2))) (
 Post (.tuple #[.agg #[.int .u8 0, .int .u8 0, .int .u8 0, .int .u8 0, .int .u8 0, .int .i64 0, .int .u64 0, .slice none 0 0], .int .i64 2]) [p0, p1, sliHP true 9 1 v0.v (Int.toNat x0) (tabL (Int.toNat x0) [colV 1 (fun j => .string ⟨(strD (at2F A0 j)).toArray⟩)])]) (
 Fork (¬ (strD (rowLF [6, 99, 114, 101, 97, 116, 101]) = strD (at2F A0 0))) (
 ∃ post, Meets P 20 [.int .u8 12] [] post ∧
 ∀ x hs, post x hs → x = .tuple #[.string ⟨#[97, 100, 100]⟩, .string ⟨#[100, 112]⟩, .bool true] ∧ hs = [] ∧
 Need ((¬ (strD (rowLF [3, 97, 100, 100]) = strD (at2F A0 0))) ∨ (0 ≤ x0)) (
 Fork ((strD (rowLF [3, 97, 100, 100]) = strD (at2F A0 0)) ∧ (¬ (x0 = 3))) (
 Post (.tuple #[.agg #[.int .u8 0, .int .u8 0, .int .u8 0, .int .u8 0, .int .u8 0, .int .i64 0, .int .u64 0, .slice none 0 0], .int .i64 2]) [p0, p1, sliHP true 9 1 v0.v (Int.toNat x0) (tabL (Int.toNat x0) [colV 1 (fun j => .string ⟨(strD (at2F A0 j)).toArray⟩)])]) (
 Fork (¬ (strD (rowLF [3, 97, 100, 100]) = strD (at2F A0 0))) (
 ∃ post, Meets P 20 [.int .u8 13] [] post ∧
 ∀ x hs, post x hs → x = .tuple #[.string ⟨#[107, 105, 99, 107]⟩, .string ⟨#[100, 112]⟩, .bool true] ∧ hs = [] ∧
 Need ((¬ (strD (rowLF [4, 107, 105, 99, 107]) = strD (at2F A0 0))) ∨ (0 ≤ x0)) (
 Fork ((strD (rowLF [4, 107, 105, 99, 107]) = strD (at2F A0 0)) ∧ (¬ (x0 = 3))) (
 Post (.tuple #[.agg #[.int .u8 0, .int .u8 0, .int .u8 0, .int .u8 0, .int .u8 0, .int .i64 0, .int .u64 0, .slice none 0 0], .int .i64 2]) [p0, p1, sliHP true 9 1 v0.v (Int.toNat x0) (tabL (Int.toNat x0) [colV 1 (fun j => .string ⟨(strD (at2F A0 j)).toArray⟩)])]) (
 Fork (¬ (strD (rowLF [4, 107, 105, 99, 107]) = strD (at2F A0 0))) (
 ∃ post, Meets P 20 [.int .u8 14] [] post ∧
 ∀ x hs, post x hs → x = .tuple #[.string ⟨#[108, 101, 97, 118, 101]⟩, .string ⟨#[100]⟩, .bool true] ∧ hs = [] ∧
 Need ((¬ (strD (rowLF [5, 108, 101, 97, 118, 101]) = strD (at2F A0 0))) ∨ (0 ≤ x0)) (
 Fork ((strD (rowLF [5, 108, 101, 97, 118, 101]) = strD (at2F A0 0)) ∧ (¬ (x0 = 2))) (
 Post (.tuple #[.agg #[.int .u8 0, .int .u8 0, .int .u8 0, .int .u8 0, .int .u8 0, .int .i64 0, .int .u64 0, .slice none 0 0], .int .i64 2]) [p0, p1, sliHP true 9 1 v0.v (Int.toNat x0) (tabL (Int.toNat x0) [colV 1 (fun j => .string ⟨(strD (at2F A0 j)).toArray⟩)])]) (
 Fork (¬ (strD (rowLF [5, 108, 101, 97, 118, 101]) = strD (at2F A0 0))) (
 ∃ post, Meets P 20 [.int .u8 15] [] post ∧
 ∀ x hs, post x hs → x = .tuple #[.string ⟨#[102, 114, 97, 109, 101]⟩, .string ⟨#[100, 98]⟩, .bool true] ∧ hs = [] ∧
 Need ((¬ (strD (rowLF [5, 102, 114, 97, 109, 101]) = strD (at2F A0 0))) ∨ (0 ≤ x0)) (
 Fork ((strD (rowLF [5, 102, 114, 97, 109, 101]) = strD (at2F A0 0)) ∧ (¬ (x0 = 3))) (
 Post (.tuple #[.agg #[.int .u8 0, .int .u8 0, .int .u8 0, .int .u8 0, .int .u8 0, .int .i64 0, .int .u64 0, .slice none 0 0], .int .i64 2]) [p0, p1, sliHP true 9 1 v0.v (Int.toNat x0) (tabL (Int.toNat x0) [colV 1 (fun j => .string ⟨(strD (at2F A0 j)).toArray⟩)])]) (
 Fork (¬ (strD (rowLF [5, 102, 114, 97, 109, 101]) = strD (at2F A0 0))) (
 ∃ post, Meets P 20 [.int .u8 16] [] post ∧
 ∀ x hs, post x hs → x = .tuple #[.string ⟨#[]⟩, .string ⟨#[]⟩, .bool false] ∧ hs = [] ∧
 Post (.tuple #[.agg #[.int .u8 0, .int .u8 0, .int .u8 0, .int .u8 0, .int .u8 0, .int .i64 0, .int .u64 0, .slice none 0 0], .int .i64 2]) [p0, p1, sliHP true 9 1 v0.v (Int.toNat x0) (tabL (Int.toNat x0) [colV 1 (fun j => .string ⟨(strD (at2F A0 j)).toArray⟩)])]) (
 ∀ _ : Nat, ∀ _ : Nat, Need (1 < x0) (
 ∃ post, Meets P 50 [.string ⟨(strD (at2F A0 1)).toArray⟩] [p0] post ∧
 ∀ x hs, post x hs → ∃ x1 : Int, ∃ x2 : Int, ∃ q0 : Bool, x = .tuple #[.agg #[.int .u8 x1, .int .u8 x2], .bool q0] ∧ hs = [p0] ∧
 Fork (¬ (q0 = true)) (
 Post (.tuple #[.agg #[.int .u8 0, .int .u8 0, .int .u8 0, .int .u8 0, .int .u8 0, .int .i64 0, .int .u64 0, .slice none 0 0], .int .i64 5]) [p0, p1, sliHP true 9 1 v0.v (Int.toNat x0) (tabL (Int.toNat x0) [colV 1 (fun j => .string ⟨(strD (at2F A0 j)).toArray⟩)])]) (
 Need (2 < x0) (
 ∃ post, Meets P 53 [.string ⟨(strD (at2F A0 2)).toArray⟩] [p1] post ∧
 ∀ x hs, post x hs → ∃ x3 : Int, ∃ q1 : Bool, ∃ p2 : HP, x = .tuple #[(bslV x3), .bool q1] ∧ hs = [p2] ∧
 Fork (¬ (q1 = true)) (
 Post (.tuple #[.agg #[.int .u8 0, .int .u8 0, .int .u8 0, .int .u8 0, .int .u8 0, .int .i64 0, .int .u64 0, .slice none 0 0], .int .i64 5]) [p0, p2, sliHP true 9 1 v0.v (Int.toNat x0) (tabL (Int.toNat x0) [colV 1 (fun j => .string ⟨(strD (at2F A0 j)).toArray⟩)])]) (
 Post (.tuple #[.agg #[.int .u8 15, .int .u8 x1, .int .u8 x2, .int .u8 0, .int .u8 0, .int .i64 0, .int .u64 0, (bslV x3)], .int .i64 0]) [p0, p2, sliHP true 9 1 v0.v (Int.toNat x0) (tabL (Int.toNat x0) [colV 1 (fun j => .string ⟨(strD (at2F A0 j)).toArray⟩)])])))))))) (
 ∀ _ : Nat, ∀ _ : Nat, Need (1 < x0) (
 ∃ post, Meets P 50 [.string ⟨(strD (at2F A0 1)).toArray⟩] [p0] post ∧
 ∀ x hs, post x hs → ∃ x1 : Int, ∃ x2 : Int, ∃ q0 : Bool, x = .tuple #[.agg #[.int .u8 x1, .int .u8 x2], .bool q0] ∧ hs = [p0] ∧
 Fork (¬ (q0 = true)) (
 Post (.tuple #[.agg #[.int .u8 0, .int .u8 0, .int .u8 0, .int .u8 0, .int .u8 0, .int .i64 0, .int .u64 0, .slice none 0 0], .int .i64 5]) [p0, p1, sliHP true 9 1 v0.v (Int.toNat x0) (tabL (Int.toNat x0) [colV 1 (fun j => .string ⟨(strD (at2F A0 j)).toArray⟩)])]) (
 Post (.tuple #[.agg #[.int .u8 14, .int .u8 x1, .int .u8 x2, .int .u8 0, .int .u8 0, .int .i64 0, .int .u64 0, .slice none 0 0], .int .i64 0]) [p0, p1, sliHP true 9 1 v0.v (Int.toNat x0) (tabL (Int.toNat x0) [colV 1 (fun j => .string ⟨(strD (at2F A0 j)).toArray⟩)])])))))) (
 ∀ _ : Nat, ∀ _ : Nat, Need (1 < x0) (
 ∃ post, Meets P 50 [.string ⟨(strD (at2F A0 1)).toArray⟩] [p0] post ∧
 ∀ x hs, post x hs → ∃ x1 : Int, ∃ x2 : Int, ∃ q0 : Bool, x = .tuple #[.agg #[.int .u8 x1, .int .u8 x2], .bool q0] ∧ hs = [p0] ∧
 Fork (¬ (q0 = true)) (
 Post (.tuple #[.agg #[.int .u8 0, .int .u8 0, .int .u8 0, .int .u8 0, .int .u8 0, .int .i64 0, .int .u64 0, .slice none 0 0], .int .i64 5]) [p0, p1, sliHP true 9 1 v0.v (Int.toNat x0) (tabL (Int.toNat x0) [colV 1 (fun j => .string ⟨(strD (at2F A0 j)).toArray⟩)])]) (
 Need (2 < x0) (
 ∃ post, Meets P 50 [.string ⟨(strD (at2F A0 2)).toArray⟩] [p0] post ∧
 ∀ x hs, post x hs → ∃ x3 : Int, ∃ x4 : Int, ∃ q1 : Bool, x = .tuple #[.agg #[.int .u8 x3, .int .u8 x4], .bool q1] ∧ hs = [p0] ∧
 Fork (¬ (q1 = true)) (
 Post (.tuple #[.agg #[.int .u8 0, .int .u8 0, .int .u8 0, .int .u8 0, .int .u8 0, .int .i64 0, .int .u64 0, .slice none 0 0], .int .i64 5]) [p0, p1, sliHP true 9 1 v0.v (Int.toNat x0) (tabL (Int.toNat x0) [colV 1 (fun j => .string ⟨(strD (at2F A0 j)).toArray⟩)])]) (
 Post (.tuple #[.agg #[.int .u8 13, .int .u8 x1, .int .u8 x2, .int .u8 x3, .int .u8 x4, .int .i64 0, .int .u64 0, .slice none 0 0], .int .i64 0]) [p0, p1, sliHP true 9 1 v0.v (Int.toNat x0) (tabL (Int.toNat x0) [colV 1 (fun j => .string ⟨(strD (at2F A0 j)).toArray⟩)])])))))))) (
 ∀ _ : Nat, ∀ _ : Nat, Need (1 < x0) (
 ∃ post, Meets P 50 [.string ⟨(strD (at2F A0 1)).toArray⟩] [p0] post ∧
 ∀ x hs, post x hs → ∃ x1 : Int, ∃ x2 : Int, ∃ q0 : Bool, x = .tuple #[.agg #[.int .u8 x1, .int .u8 x2], .bool q0] ∧ hs = [p0] ∧
 Fork (¬ (q0 = true)) (
 Post (.tuple #[.agg #[.int .u8 0, .int .u8 0, .int .u8 0, .int .u8 0, .int .u8 0, .int .i64 0, .int .u64 0, .slice none 0 0], .int .i64 5]) [p0, p1, sliHP true 9 1 v0.v (Int.toNat x0) (tabL (Int.toNat x0) [colV 1 (fun j => .string ⟨(strD (at2F A0 j)).toArray⟩)])]) (
 Need (2 < x0) (
 ∃ post, Meets P 50 [.string ⟨(strD (at2F A0 2)).toArray⟩] [p0] post ∧
 ∀ x hs, post x hs → ∃ x3 : Int, ∃ x4 : Int, ∃ q1 : Bool, x = .tuple #[.agg #[.int .u8 x3, .int .u8 x4], .bool q1] ∧ hs = [p0] ∧
 Fork (¬ (q1 = true)) (
 Post (.tuple #[.agg #[.int .u8 0, .int .u8 0, .int .u8 0, .int .u8 0, .int .u8 0, .int .i64 0, .int .u64 0, .slice none 0 0], .int .i64 5]) [p0, p1, sliHP true 9 1 v0.v (Int.toNat x0) (tabL (Int.toNat x0) [colV 1 (fun j => .string ⟨(strD (at2F A0 j)).toArray⟩)])]) (
 Post (.tuple #[.agg #[.int .u8 12, .int .u8 x1, .int .u8 x2, .int .u8 x3, .int .u8 x4, .int .i64 0, .int .u64 0, .slice none 0 0], .int .i64 0]) [p0, p1, sliHP true 9 1 v0.v (Int.toNat x0) (tabL (Int.toNat x0) [colV 1 (fun j => .string ⟨(strD (at2F A0 j)).toArray⟩)])])))))))) (
 ∀ _ : Nat, ∀ _ : Nat, Need (1 < x0) (
 ∃ post, Meets P 50 [.string ⟨(strD (at2F A0 1)).toArray⟩] [p0] post ∧
 ∀ x hs, post x hs → ∃ x1 : Int, ∃ x2 : Int, ∃ q0 : Bool, x = .tuple #[.agg #[.int .u8 x1, .int .u8 x2], .bool q0] ∧ hs = [p0] ∧
 Fork (¬ (q0 = true)) (
 Post (.tuple #[.agg #[.int .u8 0, .int .u8 0, .int .u8 0, .int .u8 0, .int .u8 0, .int .i64 0, .int .u64 0, .slice none 0 0], .int .i64 5]) [p0, p1, sliHP true 9 1 v0.v (Int.toNat x0) (tabL (Int.toNat x0) [colV 1 (fun j => .string ⟨(strD (at2F A0 j)).toArray⟩)])]) (
 Post (.tuple #[.agg #[.int .u8 11, .int .u8 x1, .int .u8 x2, .int .u8 0, .int .u8 0, .int .i64 0, .int .u64 0, .slice none 0 0], .int .i64 0]) [p0, p1, sliHP true 9 1 v0.v (Int.toNat x0) (tabL (Int.toNat x0) [colV 1 (fun j => .string ⟨(strD (at2F A0 j)).toArray⟩)])])))))) (
 ∀ _ : Nat, ∀ _ : Nat, Need (1 < x0) (
 ∃ post, Meets P 50 [.string ⟨(strD (at2F A0 1)).toArray⟩] [p0] post ∧
 ∀ x hs, post x hs → ∃ x1 : Int, ∃ x2 : Int, ∃ q0 : Bool, x = .tuple #[.agg #[.int .u8 x1, .int .u8 x2], .bool q0] ∧ hs = [p0] ∧
 Fork (¬ (q0 = true)) (
 Post (.tuple #[.agg #[.int .u8 0, .int .u8 0, .int .u8 0, .int .u8 0, .int .u8 0, .int .i64 0, .int .u64 0, .slice none 0 0], .int .i64 5]) [p0, p1, sliHP true 9 1 v0.v (Int.toNat x0) (tabL (Int.toNat x0) [colV 1 (fun j => .string ⟨(strD (at2F A0 j)).toArray⟩)])]) (
 Need (2 < x0) (
 ∃ post, Meets P 53 [.string ⟨(strD (at2F A0 2)).toArray⟩] [p1] post ∧
 ∀ x hs, post x hs → ∃ x3 : Int, ∃ q1 : Bool, ∃ p2 : HP, x = .tuple #[(bslV x3), .bool q1] ∧ hs = [p2] ∧
 Fork (¬ (q1 = true)) (
 Post (.tuple #[.agg #[.int .u8 0, .int .u8 0, .int .u8 0, .int .u8 0, .int .u8 0, .int .i64 0, .int .u64 0, .slice none 0 0], .int .i64 5]) [p0, p2, sliHP true 9 1 v0.v (Int.toNat x0) (tabL (Int.toNat x0) [colV 1 (fun j => .string ⟨(strD (at2F A0 j)).toArray⟩)])]) (
 Post (.tuple #[.agg #[.int .u8 10, .int .u8 x1, .int .u8 x2, .int .u8 0, .int .u8 0, .int .i64 0, .int .u64 0, (bslV x3)], .int .i64 0]) [p0, p2, sliHP true 9 1 v0.v (Int.toNat x0) (tabL (Int.toNat x0) [colV 1 (fun j => .string ⟨(strD (at2F A0 j)).toArray⟩)])])))))))) (
 ∀ _ : Nat, ∀ _ : Nat, Need (1 < x0) (
 ∃ post, Meets P 51 [.string ⟨(strD (at2F A0 1)).toArray⟩] [p0] post ∧
 ∀ x hs, post x hs → ∃ v1 : V1, ∃ x1 : Int, ∃ q0 : Bool, x = .tuple #[.int .i64 x1, (if q0 then ifaceOf v1.v else .nilIface)] ∧ hs = [p0] ∧
 Fork (¬ (q0 = true)) (
 ∃ post, Meets P 22 [.int .i64 x1] [p0] post ∧
 ∀ x hs, post x hs → ∃ A1 : (Nat → Int), x = .string ⟨(strD A1).toArray⟩ ∧ hs = [p0] ∧
 Fork (¬ (strD A1 = strD (at2F A0 1))) (
 Post (.tuple #[.agg #[.int .u8 0, .int .u8 0, .int .u8 0, .int .u8 0, .int .u8 0, .int .i64 0, .int .u64 0, .slice none 0 0], .int .i64 5]) [p0, p1, sliHP true 9 1 v0.v (Int.toNat x0) (tabL (Int.toNat x0) [colV 1 (fun j => .string ⟨(strD (at2F A0 j)).toArray⟩)])]) (
 Need (2 < x0) (
 ∃ post, Meets P 52 [.string ⟨(strD (at2F A0 2)).toArray⟩, .int .i64 64] [p0] post ∧
 ∀ x hs, post x hs → ∃ x2 : Int, ∃ q1 : Bool, x = .tuple #[.int .u64 x2, .bool q1] ∧ hs = [p0] ∧
 Fork (¬ (q1 = true)) (
 Post (.tuple #[.agg #[.int .u8 0, .int .u8 0, .int .u8 0, .int .u8 0, .int .u8 0, .int .i64 0, .int .u64 0, .slice none 0 0], .int .i64 5]) [p0, p1, sliHP true 9 1 v0.v (Int.toNat x0) (tabL (Int.toNat x0) [colV 1 (fun j => .string ⟨(strD (at2F A0 j)).toArray⟩)])]) (
 Post (.tuple #[.agg #[.int .u8 9, .int .u8 0, .int .u8 0, .int .u8 0, .int .u8 0, .int .i64 x1, .int .u64 x2, .slice none 0 0], .int .i64 0]) [p0, p1, sliHP true 9 1 v0.v (Int.toNat x0) (tabL (Int.toNat x0) [colV 1 (fun j => .string ⟨(strD (at2F A0 j)).toArray⟩)])])))) (
 Post (.tuple #[.agg #[.int .u8 0, .int .u8 0, .int .u8 0, .int .u8 0, .int .u8 0, .int .i64 0, .int .u64 0, .slice none 0 0], .int .i64 5]) [p0, p1, sliHP true 9 1 v0.v (Int.toNat x0) (tabL (Int.toNat x0) [colV 1 (fun j => .string ⟨(strD (at2F A0 j)).toArray⟩)])])))))) (
 ∀ _ : Nat, ∀ _ : Nat, Need (1 < x0) (
 ∃ post, Meets P 51 [.string ⟨(strD (at2F A0 1)).toArray⟩] [p0] post ∧
 ∀ x hs, post x hs → ∃ v1 : V1, ∃ x1 : Int, ∃ q0 : Bool, x = .tuple #[.int .i64 x1, (if q0 then ifaceOf v1.v else .nilIface)] ∧ hs = [p0] ∧
 Fork (¬ (q0 = true)) (
 ∃ post, Meets P 22 [.int .i64 x1] [p0] post ∧
 ∀ x hs, post x hs → ∃ A1 : (Nat → Int), x = .string ⟨(strD A1).toArray⟩ ∧ hs = [p0] ∧
 Fork (¬ (strD A1 = strD (at2F A0 1))) (
 Post (.tuple #[.agg #[.int .u8 0, .int .u8 0, .int .u8 0, .int .u8 0, .int .u8 0, .int .i64 0, .int .u64 0, .slice none 0 0], .int .i64 5]) [p0, p1, sliHP true 9 1 v0.v (Int.toNat x0) (tabL (Int.toNat x0) [colV 1 (fun j => .string ⟨(strD (at2F A0 j)).toArray⟩)])]) (
 Post (.tuple #[.agg #[.int .u8 8, .int .u8 0, .int .u8 0, .int .u8 0, .int .u8 0, .int .i64 x1, .int .u64 0, .slice none 0 0], .int .i64 0]) [p0, p1, sliHP true 9 1 v0.v (Int.toNat x0) (tabL (Int.toNat x0) [colV 1 (fun j => .string ⟨(strD (at2F A0 j)).toArray⟩)])])) (
 Post (.tuple #[.agg #[.int .u8 0, .int .u8 0, .int .u8 0, .int .u8 0, .int .u8 0, .int .i64 0, .int .u64 0, .slice none 0 0], .int .i64 5]) [p0, p1, sliHP true 9 1 v0.v (Int.toNat x0) (tabL (Int.toNat x0) [colV 1 (fun j => .string ⟨(strD (at2F A0 j)).toArray⟩)])])))))) (
 ∀ _ : Nat, ∀ _ : Nat, Need (1 < x0) (
 ∃ post, Meets P 51 [.string ⟨(strD (at2F A0 1)).toArray⟩] [p0] post ∧
 ∀ x hs, post x hs → ∃ v1 : V1, ∃ x1 : Int, ∃ q0 : Bool, x = .tuple #[.int .i64 x1, (if q0 then ifaceOf v1.v else .nilIface)] ∧ hs = [p0] ∧
 Fork (¬ (q0 = true)) (
 ∃ post, Meets P 22 [.int .i64 x1] [p0] post ∧
 ∀ x hs, post x hs → ∃ A1 : (Nat → Int), x = .string ⟨(strD A1).toArray⟩ ∧ hs = [p0] ∧
 Fork (¬ (strD A1 = strD (at2F A0 1))) (
 Post (.tuple #[.agg #[.int .u8 0, .int .u8 0, .int .u8 0, .int .u8 0, .int .u8 0, .int .i64 0, .int .u64 0, .slice none 0 0], .int .i64 5]) [p0, p1, sliHP true 9 1 v0.v (Int.toNat x0) (tabL (Int.toNat x0) [colV 1 (fun j => .string ⟨(strD (at2F A0 j)).toArray⟩)])]) (
 Post (.tuple #[.agg #[.int .u8 7, .int .u8 0, .int .u8 0, .int .u8 0, .int .u8 0, .int .i64 x1, .int .u64 0, .slice none 0 0], .int .i64 0]) [p0, p1, sliHP true 9 1 v0.v (Int.toNat x0) (tabL (Int.toNat x0) [colV 1 (fun j => .string ⟨(strD (at2F A0 j)).toArray⟩)])])) (
 Post (.tuple #[.agg #[.int .u8 0, .int .u8 0, .int .u8 0, .int .u8 0, .int .u8 0, .int .i64 0, .int .u64 0, .slice none 0 0], .int .i64 5]) [p0, p1, sliHP true 9 1 v0.v (Int.toNat x0) (tabL (Int.toNat x0) [colV 1 (fun j => .string ⟨(strD (at2F A0 j)).toArray⟩)])])))))) (
 ∀ _ : Nat, ∀ _ : Nat, Need (1 < x0) (
 ∃ post, Meets P 51 [.string ⟨(strD (at2F A0 1)).toArray⟩] [p0] post ∧
 ∀ x hs, post x hs → ∃ v1 : V1, ∃ x1 : Int, ∃ q0 : Bool, x = .tuple #[.int .i64 x1, (if q0 then ifaceOf v1.v else .nilIface)] ∧ hs = [p0] ∧
 Fork (¬ (q0 = true)) (
 ∃ post, Meets P 22 [.int .i64 x1] [p0] post ∧
 ∀ x hs, post x hs → ∃ A1 : (Nat → Int), x = .string ⟨(strD A1).toArray⟩ ∧ hs = [p0] ∧
 Fork (¬ (strD A1 = strD (at2F A0 1))) (
 Post (.tuple #[.agg #[.int .u8 0, .int .u8 0, .int .u8 0, .int .u8 0, .int .u8 0, .int .i64 0, .int .u64 0, .slice none 0 0], .int .i64 5]) [p0, p1, sliHP true 9 1 v0.v (Int.toNat x0) (tabL (Int.toNat x0) [colV 1 (fun j => .string ⟨(strD (at2F A0 j)).toArray⟩)])]) (
 Post (.tuple #[.agg #[.int .u8 6, .int .u8 0, .int .u8 0, .int .u8 0, .int .u8 0, .int .i64 x1, .int .u64 0, .slice none 0 0], .int .i64 0]) [p0, p1, sliHP true 9 1 v0.v (Int.toNat x0) (tabL (Int.toNat x0) [colV 1 (fun j => .string ⟨(strD (at2F A0 j)).toArray⟩)])])) (
 Post (.tuple #[.agg #[.int .u8 0, .int .u8 0, .int .u8 0, .int .u8 0, .int .u8 0, .int .i64 0, .int .u64 0, .slice none 0 0], .int .i64 5]) [p0, p1, sliHP true 9 1 v0.v (Int.toNat x0) (tabL (Int.toNat x0) [colV 1 (fun j => .string ⟨(strD (at2F A0 j)).toArray⟩)])])))))) (
 ∀ _ : Nat, ∀ _ : Nat, Need (1 < x0) (
 ∃ post, Meets P 51 [.string ⟨(strD (at2F A0 1)).toArray⟩] [p0] post ∧
 ∀ x hs, post x hs → ∃ v1 : V1, ∃ x1 : Int, ∃ q0 : Bool, x = .tuple #[.int .i64 x1, (if q0 then ifaceOf v1.v else .nilIface)] ∧ hs = [p0] ∧
 Fork (¬ (q0 = true)) (
 ∃ post, Meets P 22 [.int .i64 x1] [p0] post ∧
 ∀ x hs, post x hs → ∃ A1 : (Nat → Int), x = .string ⟨(strD A1).toArray⟩ ∧ hs = [p0] ∧
 Fork (¬ (strD A1 = strD (at2F A0 1))) (
 Post (.tuple #[.agg #[.int .u8 0, .int .u8 0, .int .u8 0, .int .u8 0, .int .u8 0, .int .i64 0, .int .u64 0, .slice none 0 0], .int .i64 5]) [p0, p1, sliHP true 9 1 v0.v (Int.toNat x0) (tabL (Int.toNat x0) [colV 1 (fun j => .string ⟨(strD (at2F A0 j)).toArray⟩)])]) (
 Post (.tuple #[.agg #[.int .u8 5, .int .u8 0, .int .u8 0, .int .u8 0, .int .u8 0, .int .i64 x1, .int .u64 0, .slice none 0 0], .int .i64 0]) [p0, p1, sliHP true 9 1 v0.v (Int.toNat x0) (tabL (Int.toNat x0) [colV 1 (fun j => .string ⟨(strD (at2F A0 j)).toArray⟩)])])) (
 Post (.tuple #[.agg #[.int .u8 0, .int .u8 0, .int .u8 0, .int .u8 0, .int .u8 0, .int .i64 0, .int .u64 0, .slice none 0 0], .int .i64 5]) [p0, p1, sliHP true 9 1 v0.v (Int.toNat x0) (tabL (Int.toNat x0) [colV 1 (fun j => .string ⟨(strD (at2F A0 j)).toArray⟩)])])))))) (
 ∀ _ : Nat, ∀ _ : Nat, Need (1 < x0) (
 ∃ post, Meets P 50 [.string ⟨(strD (at2F A0 1)).toArray⟩] [p0] post ∧
 ∀ x hs, post x hs → ∃ x1 : Int, ∃ x2 : Int, ∃ q0 : Bool, x = .tuple #[.agg #[.int .u8 x1, .int .u8 x2], .bool q0] ∧ hs = [p0] ∧
 Fork (¬ (q0 = true)) (
 Post (.tuple #[.agg #[.int .u8 0, .int .u8 0, .int .u8 0, .int .u8 0, .int .u8 0, .int .i64 0, .int .u64 0, .slice none 0 0], .int .i64 5]) [p0, p1, sliHP true 9 1 v0.v (Int.toNat x0) (tabL (Int.toNat x0) [colV 1 (fun j => .string ⟨(strD (at2F A0 j)).toArray⟩)])]) (
 Post (.tuple #[.agg #[.int .u8 4, .int .u8 x1, .int .u8 x2, .int .u8 0, .int .u8 0, .int .i64 0, .int .u64 0, .slice none 0 0], .int .i64 0]) [p0, p1, sliHP true 9 1 v0.v (Int.toNat x0) (tabL (Int.toNat x0) [colV 1 (fun j => .string ⟨(strD (at2F A0 j)).toArray⟩)])])))))) (
 ∀ _ : Nat, ∀ _ : Nat, Need (1 < x0) (
 ∃ post, Meets P 50 [.string ⟨(strD (at2F A0 1)).toArray⟩] [p0] post ∧
 ∀ x hs, post x hs → ∃ x1 : Int, ∃ x2 : Int, ∃ q0 : Bool, x = .tuple #[.agg #[.int .u8 x1, .int .u8 x2], .bool q0] ∧ hs = [p0] ∧
 Fork (¬ (q0 = true)) (
 Post (.tuple #[.agg #[.int .u8 0, .int .u8 0, .int .u8 0, .int .u8 0, .int .u8 0, .int .i64 0, .int .u64 0, .slice none 0 0], .int .i64 5]) [p0, p1, sliHP true 9 1 v0.v (Int.toNat x0) (tabL (Int.toNat x0) [colV 1 (fun j => .string ⟨(strD (at2F A0 j)).toArray⟩)])]) (
 Post (.tuple #[.agg #[.int .u8 3, .int .u8 x1, .int .u8 x2, .int .u8 0, .int .u8 0, .int .i64 0, .int .u64 0, .slice none 0 0], .int .i64 0]) [p0, p1, sliHP true 9 1 v0.v (Int.toNat x0) (tabL (Int.toNat x0) [colV 1 (fun j => .string ⟨(strD (at2F A0 j)).toArray⟩)])])))))) (
 ∀ _ : Nat, ∀ _ : Nat, Need (1 < x0) (
 ∃ post, Meets P 50 [.string ⟨(strD (at2F A0 1)).toArray⟩] [p0] post ∧
 ∀ x hs, post x hs → ∃ x1 : Int, ∃ x2 : Int, ∃ q0 : Bool, x = .tuple #[.agg #[.int .u8 x1, .int .u8 x2], .bool q0] ∧ hs = [p0] ∧
 Fork (¬ (q0 = true)) (
 Post (.tuple #[.agg #[.int .u8 0, .int .u8 0, .int .u8 0, .int .u8 0, .int .u8 0, .int .i64 0, .int .u64 0, .slice none 0 0], .int .i64 5]) [p0, p1, sliHP true 9 1 v0.v (Int.toNat x0) (tabL (Int.toNat x0) [colV 1 (fun j => .string ⟨(strD (at2F A0 j)).toArray⟩)])]) (
 Post (.tuple #[.agg #[.int .u8 2, .int .u8 x1, .int .u8 x2, .int .u8 0, .int .u8 0, .int .i64 0, .int .u64 0, .slice none 0 0], .int .i64 0]) [p0, p1, sliHP true 9 1 v0.v (Int.toNat x0) (tabL (Int.toNat x0) [colV 1 (fun j => .string ⟨(strD (at2F A0 j)).toArray⟩)])])))))) (
 ∀ _ : Nat, ∀ _ : Nat, Need (1 < x0) (
 ∃ post, Meets P 50 [.string ⟨(strD (at2F A0 1)).toArray⟩] [p0] post ∧
 ∀ x hs, post x hs → ∃ x1 : Int, ∃ x2 : Int, ∃ q0 : Bool, x = .tuple #[.agg #[.int .u8 x1, .int .u8 x2], .bool q0] ∧ hs = [p0] ∧
 Fork (¬ (q0 = true)) (
 Post (.tuple #[.agg #[.int .u8 0, .int .u8 0, .int .u8 0, .int .u8 0, .int .u8 0, .int .i64 0, .int .u64 0, .slice none 0 0], .int .i64 5]) [p0, p1, sliHP true 9 1 v0.v (Int.toNat x0) (tabL (Int.toNat x0) [colV 1 (fun j => .string ⟨(strD (at2F A0 j)).toArray⟩)])]) (
 Need (2 < x0) (
 ∃ post, Meets P 51 [.string ⟨(strD (at2F A0 2)).toArray⟩] [p0] post ∧
 ∀ x hs, post x hs → ∃ v1 : V1, ∃ x3 : Int, ∃ q1 : Bool, x = .tuple #[.int .i64 x3, (if q1 then ifaceOf v1.v else .nilIface)] ∧ hs = [p0] ∧
 Fork (¬ (q1 = true)) (
 ∃ post, Meets P 22 [.int .i64 x3] [p0] post ∧
 ∀ x hs, post x hs → ∃ A1 : (Nat → Int), x = .string ⟨(strD A1).toArray⟩ ∧ hs = [p0] ∧
 Fork (¬ (strD A1 = strD (at2F A0 2))) (
 Post (.tuple #[.agg #[.int .u8 0, .int .u8 0, .int .u8 0, .int .u8 0, .int .u8 0, .int .i64 0, .int .u64 0, .slice none 0 0], .int .i64 5]) [p0, p1, sliHP true 9 1 v0.v (Int.toNat x0) (tabL (Int.toNat x0) [colV 1 (fun j => .string ⟨(strD (at2F A0 j)).toArray⟩)])]) (
 Post (.tuple #[.agg #[.int .u8 1, .int .u8 x1, .int .u8 x2, .int .u8 0, .int .u8 0, .int .i64 x3, .int .u64 0, .slice none 0 0], .int .i64 0]) [p0, p1, sliHP true 9 1 v0.v (Int.toNat x0) (tabL (Int.toNat x0) [colV 1 (fun j => .string ⟨(strD (at2F A0 j)).toArray⟩)])])) (
 Post (.tuple #[.agg #[.int .u8 0, .int .u8 0, .int .u8 0, .int .u8 0, .int .u8 0, .int .i64 0, .int .u64 0, .slice none 0 0], .int .i64 5]) [p0, p1, sliHP true 9 1 v0.v (Int.toNat x0) (tabL (Int.toNat x0) [colV 1 (fun j => .string ⟨(strD (at2F A0 j)).toArray⟩)])]))))))))
theorem vc_pmove (P : Program) (Post : Value → List HP → Prop) (x0 : Int) (A0 : Nat → Int) (v0 : V1) (p0 : HP) (p1 : HP) (L : Nat → LC) : VC P (fun v hs => Post v (hs.take 3)) fm_pmove { iv := [x0], av := [A0], bo := [], bv := [], vv := [v0], pv := [p0, p1] } L = st_pmove P Post x0 A0 v0 p0 p1 := by kernel_rfl
theorem run_pmove : runF cxM 31 ([SV.vv 0]) ([Ck.abs 0, Ck.abs 1, Ck.sli true 0 9 1 (E.var 0) [{ ck := CK.str, w := 1, a := E.avar 0 }]]) ({ b := 0, v := 1, i := 1, a := 1, bo := 0, p := 2, r := 0 }) Tryd.f31 = fm_pmove := rfl
end Go.RX.St
