/- Reading of moves: the library's fields at a blank are the words. · Reading of moves, the program's side: a line's words. · Reading of a text, the document's side: what the function leaves to be shown (A); printed by a program of ours (wip/tools). · Reading of a text, the document's side: moves and their lines. -/
import Derived.Test.YtgaabcinjbjbgaaGreatDoorM36
import Derived.Lib.FieldsU
import Derived.Test.YtgaabcinjbjbgaaGreatDoorM33
import Derived.Test.YtgaabcinjbjbgaaGreatDoorM34
import Derived.Test.YtgaabcinjbjbgaaGreatDoorM27
import Derived.Test.YtgaabcinjbjbgaaGreatDoorM28
import Derived.Test.YtgaabcinjbjbgaaGreatDoorM41
import Derived.Test.YtgaabcinjbjbgaaGreatDoorM35

namespace Go.RX.Su
open Go Go.Lib
theorem get_l (s : ByteArray) (i : Nat) (h : i < s.size) : s.get! i = s.data.toList[i]'(by simpa using h) := by
  rcases s with ⟨a⟩
  have h' : i < a.size := h
  simp [ByteArray.get!, h']
def isB (r : Nat) : Bool := decide (r = 32)
theorem spansP_eq (s : ByteArray) : ∀ (f pos : Nat) (st : Option Nat) (acc : List (Nat × Nat)), s.size ≤ pos + f → pos ≤ s.size → (∀ a, st = some a → a < pos) →
    acc.map (fun p => pieceU s.data.toList p.1 p.2) ++ fieldsG (s.data.toList.drop pos) (openPiece s.data.toList st pos) = (closeSpans s (spansFromP isB s f pos st acc)).map (fun p => pieceU s.data.toList p.1 p.2) := by
  have hsz : s.data.toList.length = s.size := by rw [Array.length_toList]; rfl
  have fin : ∀ (pos : Nat) (st : Option Nat) (acc : List (Nat × Nat)), pos = s.size → (∀ a, st = some a → a < pos) →
      acc.map (fun p => pieceU s.data.toList p.1 p.2) ++ fieldsG (s.data.toList.drop pos) (openPiece s.data.toList st pos) = (closeSpans s (acc, st)).map (fun p => pieceU s.data.toList p.1 p.2) := by
    intro pos st acc hp hst
    rw [List.drop_eq_nil_of_le (by omega), fieldsG]
    cases st with
    | none => simp [openPiece, closeSpans]
    | some a =>
      have hne := pieceU_ne s.data.toList a pos (hst a rfl) (by omega)
      rw [hp] at hne
      simp only [openPiece, closeSpans, List.map_append, List.map_cons, List.map_nil, hp, if_neg hne]
  intro f
  induction f with
  | zero =>
    intro pos st acc h hp hst
    exact fin pos st acc (by omega) hst
  | succ f ih =>
    intro pos st acc h hp hst
    unfold spansFromP
    by_cases hlt : pos < s.size
    · rw [if_pos hlt]
      have hl : pos < s.data.toList.length := by omega
      have hd := List.drop_eq_getElem_cons hl
      have hg := get_l s pos hlt
      by_cases ha : (s.get! pos).toNat < 128
      · rw [dec_ascii s pos ha]
        simp only
        by_cases h32 : (s.get! pos).toNat = 32
        · have hc : s.data.toList[pos]'hl = 32 := UInt8.toNat_inj.1 (by rw [← hg]; exact h32)
          rw [if_pos (by simp [isB, h32])]
          cases st with
          | none =>
            simp only
            rw [← ih (pos + 1) none acc (by omega) (by omega) (by simp), hd, fieldsG, if_neg (by simpa using hc)]
            simp [openPiece]
          | some a =>
            simp only
            have hne := pieceU_ne s.data.toList a pos (hst a rfl) (by omega)
            rw [← ih (pos + 1) none (acc ++ [(a, pos)]) (by omega) (by omega) (by simp), hd, fieldsG, if_neg (by simpa using hc)]
            simp [openPiece, hne]
        · have hc : s.data.toList[pos]'hl ≠ 32 := fun e => h32 (by rw [hg, e]; rfl)
          rw [if_neg (by simp [isB, h32])]
          have hone : (s.data.toList.drop pos).take 1 = [s.data.toList[pos]'hl] := by rw [hd]; rfl
          cases st with
          | none =>
            simp only
            rw [← ih (pos + 1) (some pos) acc (by omega) (by omega) (by simp), hd, fieldsG, if_pos hc]
            have : pieceU s.data.toList pos (pos + 1) = [s.data.toList[pos]'hl] := by unfold pieceU; rw [show pos + 1 - pos = 1 by omega, hone]
            simp only [openPiece, this, List.nil_append]
          | some a =>
            simp only
            rw [← ih (pos + 1) (some a) acc (by omega) (by omega) (by intro b hb; cases hb; have := hst a rfl; omega), hd, fieldsG, if_pos hc]
            have := pieceU_grow s.data.toList a pos 1 (by have := hst a rfl; omega)
            rw [hone] at this
            simp only [openPiece, this]
      · obtain ⟨h1, h2, h3⟩ := dec_wide s pos ha
        generalize hw : (Utf8.decode s pos).2 = w at h2 h3 ⊢
        generalize hr : (Utf8.decode s pos).1 = r at h1 ⊢
        have hpw : pos + w ≤ s.size := by
          by_cases hw1 : w = 1
          · omega
          · have := (h3 (w - 1) (by omega) (by omega)).1
            omega
        have hx : ∀ c ∈ (s.data.toList.drop pos).take w, c ≠ 32 := by
          intro c hcm
          obtain ⟨j, hj, rfl⟩ := List.getElem_of_mem hcm
          rw [List.length_take, List.length_drop] at hj
          rw [List.getElem_take, List.getElem_drop]
          intro e
          have h128 : 128 ≤ (s.get! (pos + j)).toNat := by
            by_cases hj0 : j = 0
            · rw [hj0, Nat.add_zero]; omega
            · exact (h3 j (by omega) (by omega)).2
          rw [get_l s (pos + j) (by omega), e] at h128
          exact absurd h128 (by decide)
        rw [if_neg (by simp [isB]; omega)]
        have hsp : ∀ cur, fieldsG (s.data.toList.drop pos) cur = fieldsG (s.data.toList.drop (pos + w)) (cur ++ (s.data.toList.drop pos).take w) := by
          intro cur
          conv => lhs; rw [← List.take_append_drop w (s.data.toList.drop pos)]
          rw [fieldsG_app _ _ _ hx, List.drop_drop]
        cases st with
        | none =>
          simp only
          rw [← ih (pos + w) (some pos) acc (by omega) (by omega) (by intro b hb; cases hb; omega), hsp]
          have : pieceU s.data.toList pos (pos + w) = (s.data.toList.drop pos).take w := by unfold pieceU; rw [show pos + w - pos = w by omega]
          simp only [openPiece, this, List.nil_append]
        | some a =>
          simp only
          rw [← ih (pos + w) (some a) acc (by omega) (by omega) (by intro b hb; cases hb; have := hst a rfl; omega), hsp]
          have := pieceU_grow s.data.toList a pos w (by have := hst a rfl; omega)
          simp only [openPiece, this]
    · rw [if_neg hlt]
      exact fin pos st acc (by omega) hst
theorem piece_x (s : ByteArray) (a b : Nat) : (s.extract a b).data.toList = pieceU s.data.toList a b := by
  unfold pieceU
  rw [ByteArray.data_extract, Array.toList_extract, List.extract_eq_take_drop]
/-- The library's fields at a blank. -/
theorem fieldsP_words (l : List UInt8) : (goFieldsP isB ⟨l.toArray⟩).map (fun x => x.data.toList) = fieldsG l [] := by
  have h := spansP_eq ⟨l.toArray⟩ (ByteArray.size ⟨l.toArray⟩) 0 none [] (by omega) (by omega) (by simp)
  simp only [List.map_nil, List.nil_append, List.drop_zero, openPiece] at h
  unfold goFieldsP spansOfP
  rw [List.map_map, h]
  refine List.map_congr_left fun x _ => ?_
  exact piece_x _ _ _
end Go.RX.Su

namespace Go.RX.St
open Go Go.RX Go.Proofs Go.RX.Ln Go.RX.Su Go.RowKit Go.Lib Go.Sort
variable {n0 : Nat} {w0 : World}
theorem blank_at (w : World) : PredAt Tryz.prog 63 #[] encR isB w := fun W r _ => by
  unfold FnGives
  go_enter Tryz.func63, Tryz.ntmps63
  go_wp2
  go_ret
  refine ⟨?_, 0, rfl⟩
  have e : isB r = ((r : Int) == 32) := by
    unfold isB
    rw [Bool.eq_iff_iff]
    simp only [decide_eq_true_eq, beq_iff_eq]
    omega
  rw [e]
  first
    | rfl
    | trace_state
theorem fields_meets (l : List UInt8) (hl : l.length ≤ 1000000) : Meets Tryz.prog 62 [strV l, .func (.func 63) #[] #[]] [keptHP n0 w0] fun x hs => ∃ v : V1, x = v.v ∧ hs = [keptHP n0 w0, sliHP true 9 1 v.v (fieldsG l []).length ((fieldsG l []).map strV)] := by
  intro w Fs ho
  have hf := fieldsP_words l
  refine (Tryz.strings_FieldsFunc 63 #[] (enters_of Tryz.func63 (by kernel_rfl) rfl) isB ⟨l.toArray⟩ w (by simp [ByteArray.size]; omega) (blank_at w)).mono ?_
  rintro e w' ⟨A, rfl, hA, hown, hb⟩
  have hlen : (goFieldsP isB ⟨l.toArray⟩).length = (fieldsG l []).length := by rw [← hf, List.length_map]
  have hcs : (goFieldsP isB ⟨l.toArray⟩).map Value.string = (fieldsG l []).map strV := by
    rw [← hf, List.map_map]
    refine List.map_congr_left fun x _ => ?_
    rcases x with ⟨a⟩
    simp [strV]
  rw [hcs] at hown
  rw [hlen] at hown ⊢
  generalize fieldsG l [] = fs at hown ⊢
  refine ⟨_, _, rfl, ⟨⟨.slice (some ⟨A, 0, none⟩) fs.length fs.length, rfl⟩, rfl, rfl⟩, ?_, ?_⟩
  · refine Owns.add (a := [keptHP n0 w0]) ho (sliHP true 9 1 (.slice (some ⟨A, 0, none⟩) fs.length fs.length) fs.length (fs.map strV)) (fun k => k = A) hb.size (fun k hk => hb.block k hk) ⟨?_, fun k => ?_⟩ (fun k hk => ?_)
    · simp only [if_true]
      obtain ⟨hl, hr⟩ := hown
      refine ⟨hl, ?_⟩
      rcases hr with hn | ⟨g, cap, cur, he, _, hg, hnc, hcm, hcs, htk⟩
      · exact .inl hn
      · exact .inr ⟨g, 0, cap, cur, he, ⟨9, hg⟩, hnc, hcm, by omega, by simpa using htk⟩
    · simp [Value.ownBlock, eq_comm]
    · subst hk
      refine ⟨hA, ?_⟩
      obtain ⟨hl, hr⟩ := hown
      rcases hr with hn | ⟨g, cap, cur, he, _, hg, _⟩
      · simp at hn
      · simp only [Value.slice.injEq, Option.some.injEq, Addr.mk.injEq] at he
        obtain ⟨⟨rfl, _⟩, _⟩ := he
        exact (Array.getElem?_eq_some_iff.1 hg).1
  · exact ⟨hb.os, hb.tape, hb.output, hb.size⟩
end Go.RX.St

namespace Go.RX.Sv
open Go.RX Go.Proofs
noncomputable def cx : Ctx := { T := TT, FT := FT, loops := loops, callees := callees }
set_option maxRecDepth 100000
noncomputable def fm_rread : F := runF cx 9 ([SV.strE (E.avar 0)]) ([Ck.abs 0]) ({ b := 0, v := 0, i := 0, a := 1, bo := 0, p := 1, r := 0 }) Tryz.f9
def st_rread (P : Program) (Post : Value → List HP → Prop) (A0 : Nat → Int) (p0 : HP) : Prop :=
 Need (0 ≤ (A0 0)) (
 Fork (262144 < (A0 0)) (
 Post (.tuple #[.slice none 0 0, .slice none 0 0, .int .i64 0, .int .i64 3]) [p0]) (
 ∃ (I0x2 : Ext → Prop) (m0x2 : Ext → Nat), (∃ v2 : V1, ∃ v3 : V1, ∃ x0 : Int, ∃ x1 : Int, ∃ x2 : Int, ∃ x3 : Int, ∃ A1 : (Nat → Int), ∃ A2 : (Nat → Int), ∃ A3 : (Nat → Int), ∃ A4 : (Nat → Int), ∃ A5 : (Nat → Int), ∃ A6 : (Nat → Int), ∃ A7 : (Nat → Int), ∃ A8 : (Nat → Int), ∃ A9 : (Nat → Int), ∃ p1 : HP, x0 = 0 ∧ x1 = 1 ∧ v2 = (⟨.slice none 0 0, rfl⟩ : V1) ∧ v3 = (⟨.slice none 0 0, rfl⟩ : V1) ∧ p1 = p0 ∧ v2 = (⟨.slice none 0 0, rfl⟩ : V1) ∧ x2 = 0 ∧ (∀ j, j < (Int.toNat x2) → A1 j = (fun _ => 0) j) ∧ (∀ j, j < (Int.toNat x2) → A2 j = (fun _ => 0) j) ∧ (∀ j, j < (Int.toNat x2) → A3 j = (fun _ => 0) j) ∧ (∀ j, j < (Int.toNat x2) → A4 j = (fun _ => 0) j) ∧ (∀ j, j < (Int.toNat x2) → A5 j = (fun _ => 0) j) ∧ (∀ j, j < (Int.toNat x2) → A6 j = (fun _ => 0) j) ∧ (∀ j, j < (Int.toNat x2) → A7 j = (fun _ => 0) j) ∧ (∀ j, j < (Int.toNat x2) → A8 j = (fun _ => 0) j) ∧ v3 = (⟨.slice none 0 0, rfl⟩ : V1) ∧ x3 = 0 ∧ (∀ j, j < (Int.toNat x3) → A9 j = (fun _ => 0) j) ∧ I0x2 ⟨[], [v2, v3], [x0, x1, x2, x3], [A1, A2, A3, A4, A5, A6, A7, A8, A9], [], [p1], []⟩) ∧
 ∀ v2 : V1, ∀ v3 : V1, ∀ x0 : Int, ∀ x1 : Int, ∀ x2 : Int, ∀ x3 : Int, ∀ A1 : (Nat → Int), ∀ A2 : (Nat → Int), ∀ A3 : (Nat → Int), ∀ A4 : (Nat → Int), ∀ A5 : (Nat → Int), ∀ A6 : (Nat → Int), ∀ A7 : (Nat → Int), ∀ A8 : (Nat → Int), ∀ A9 : (Nat → Int), ∀ p1 : HP, I0x2 ⟨[], [v2, v3], [x0, x1, x2, x3], [A1, A2, A3, A4, A5, A6, A7, A8, A9], [], [p1], []⟩ →
 Need (0 ≤ (A0 0)) (
 Fork (x0 ≤ (A0 0)) (
 ∃ (I1x6 : Ext → Prop) (m1x6 : Ext → Nat), (∃ x4 : Int, x4 = x0 ∧ I1x6 ⟨[], [], [x4], [], [], [], []⟩) ∧
 ∀ x4 : Int, I1x6 ⟨[], [], [x4], [], [], [], []⟩ →
 Need (0 ≤ (A0 0)) (
 Need ((¬ (x4 < (A0 0))) ∨ (0 ≤ x4)) (
 Need ((¬ (x4 < (A0 0))) ∨ (x4 < (A0 0))) (
 Fork ((x4 < (A0 0)) ∧ (¬ (((sbyF A0) (Int.toNat x4)) = 10))) (
 Need ((-9223372036854775808) ≤ (x4 + 1)) (
 Need ((x4 + 1) ≤ 9223372036854775807) (
 ∃ x4' : Int, x4' = (x4 + 1) ∧ I1x6 ⟨[], [], [x4'], [], [], [], []⟩ ∧ m1x6 ⟨[], [], [x4'], [], [], [], []⟩ < m1x6 ⟨[], [], [x4], [], [], [], []⟩))) (
 Need (0 ≤ x0) (
 Need (x0 ≤ x4) (
 Need (x4 ≤ (A0 0)) (
 ∃ post, Meets P 30 [.string ⟨(strD (updF (shiftF A0 (Int.toNat x0)) 0 (x4 - x0))).toArray⟩] [] post ∧
 ∀ x hs, post x hs → ∃ v4 : V1, ∃ x5 : Int, ∃ A10 : (Nat → Int), x = v4.v ∧ hs = [sliHP true 9 1 v4.v (Int.toNat x5) (tabL (Int.toNat x5) [colV 1 (fun j => .string ⟨(strD (at2F A10 j)).toArray⟩)])] ∧
 Need ((-9223372036854775808) ≤ (x4 + 1)) (
 Need ((x4 + 1) ≤ 9223372036854775807) (
 Need (0 ≤ x5) (
 Fork (x5 = 0) (
 Need ((-9223372036854775808) ≤ (x1 + 1)) (
 Need ((x1 + 1) ≤ 9223372036854775807) (
 ∃ v2' : V1, ∃ v3' : V1, ∃ x0' : Int, ∃ x1' : Int, ∃ x2' : Int, ∃ x3' : Int, ∃ A1' : (Nat → Int), ∃ A2' : (Nat → Int), ∃ A3' : (Nat → Int), ∃ A4' : (Nat → Int), ∃ A5' : (Nat → Int), ∃ A6' : (Nat → Int), ∃ A7' : (Nat → Int), ∃ A8' : (Nat → Int), ∃ A9' : (Nat → Int), ∃ p1' : HP, x0' = (x4 + 1) ∧ x1' = (x1 + 1) ∧ v2' = v2 ∧ v3' = v3 ∧ p1' = p1 ∧ v2' = v2 ∧ x2' = x2 ∧ (∀ j, j < (Int.toNat x2') → A1' j = A1 j) ∧ (∀ j, j < (Int.toNat x2') → A2' j = A2 j) ∧ (∀ j, j < (Int.toNat x2') → A3' j = A3 j) ∧ (∀ j, j < (Int.toNat x2') → A4' j = A4 j) ∧ (∀ j, j < (Int.toNat x2') → A5' j = A5 j) ∧ (∀ j, j < (Int.toNat x2') → A6' j = A6 j) ∧ (∀ j, j < (Int.toNat x2') → A7' j = A7 j) ∧ (∀ j, j < (Int.toNat x2') → A8' j = A8 j) ∧ v3' = v3 ∧ x3' = x3 ∧ (∀ j, j < (Int.toNat x3') → A9' j = A9 j) ∧ I0x2 ⟨[], [v2', v3'], [x0', x1', x2', x3'], [A1', A2', A3', A4', A5', A6', A7', A8', A9'], [], [p1'], []⟩ ∧ m0x2 ⟨[], [v2', v3'], [x0', x1', x2', x3'], [A1', A2', A3', A4', A5', A6', A7', A8', A9'], [], [p1'], []⟩ < m0x2 ⟨[], [v2, v3], [x0, x1, x2, x3], [A1, A2, A3, A4, A5, A6, A7, A8, A9], [], [p1], []⟩))) (
 ∃ post, Meets P 31 [v4.v] [p1, sliHP true 9 1 v4.v (Int.toNat x5) (tabL (Int.toNat x5) [colV 1 (fun j => .string ⟨(strD (at2F A10 j)).toArray⟩)])] post ∧
 ∀ x hs, post x hs → ∃ x6 : Int, ∃ x7 : Int, ∃ x8 : Int, ∃ x9 : Int, ∃ x10 : Int, ∃ x11 : Int, ∃ x12 : Int, ∃ x13 : Int, ∃ x14 : Int, ∃ p2 : HP, x = .tuple #[.agg #[.int .u8 x6, .int .u8 x7, .int .u8 x8, .int .u8 x9, .int .u8 x10, .int .i64 x11, .int .u64 x12, (bslV x13)], .int .i64 x14] ∧ hs = [p2, sliHP true 9 1 v4.v (Int.toNat x5) (tabL (Int.toNat x5) [colV 1 (fun j => .string ⟨(strD (at2F A10 j)).toArray⟩)])] ∧
 ∀ _ : Nat, Need ((¬ (x14 = 0)) ∨ (0 ≤ x2)) (
 Fork ((x14 = 0) ∧ (x2 = 1000)) (
 Post (.tuple #[v2.v, v3.v, .int .i64 x1, .int .i64 3]) [p2, sliHP true 39 8 v2.v (Int.toNat x2) (tabL (Int.toNat x2) [colI .u8 1 A1, colI .u8 1 A2, colI .u8 1 A3, colI .u8 1 A4, colI .u8 1 A5, colI .i64 1 A6, colI .u64 1 A7, colV 1 (fun j => bslV (A8 j))]), sliHP true 3 1 v3.v (Int.toNat x3) (tabL (Int.toNat x3) [colI .i64 1 A9])]) (
 Fork (¬ (x14 = 0)) (
 Post (.tuple #[v2.v, v3.v, .int .i64 x1, .int .i64 x14]) [p2, sliHP true 39 8 v2.v (Int.toNat x2) (tabL (Int.toNat x2) [colI .u8 1 A1, colI .u8 1 A2, colI .u8 1 A3, colI .u8 1 A4, colI .u8 1 A5, colI .i64 1 A6, colI .u64 1 A7, colV 1 (fun j => bslV (A8 j))]), sliHP true 3 1 v3.v (Int.toNat x3) (tabL (Int.toNat x3) [colI .i64 1 A9])]) (
 ∀ _ : Nat, Need (0 ≤ x2) (
 Need (((x2 + 1) * 48) ≤ 140737488355328) (
 ∀ v5 : V1, ∀ _ : Nat, Need (0 ≤ x3) (
 Need (((x3 + 1) * 8) ≤ 140737488355328) (
 ∀ v6 : V1, Need ((-9223372036854775808) ≤ (x1 + 1)) (
 Need ((x1 + 1) ≤ 9223372036854775807) (
 ∃ v2' : V1, ∃ v3' : V1, ∃ x0' : Int, ∃ x1' : Int, ∃ x2' : Int, ∃ x3' : Int, ∃ A1' : (Nat → Int), ∃ A2' : (Nat → Int), ∃ A3' : (Nat → Int), ∃ A4' : (Nat → Int), ∃ A5' : (Nat → Int), ∃ A6' : (Nat → Int), ∃ A7' : (Nat → Int), ∃ A8' : (Nat → Int), ∃ A9' : (Nat → Int), ∃ p1' : HP, x0' = (x4 + 1) ∧ x1' = (x1 + 1) ∧ v2' = v5 ∧ v3' = v6 ∧ p1' = p2 ∧ v2' = v5 ∧ x2' = (x2 + 1) ∧ (∀ j, j < (Int.toNat x2') → A1' j = (updF A1 (Int.toNat x2) x6) j) ∧ (∀ j, j < (Int.toNat x2') → A2' j = (updF A2 (Int.toNat x2) x7) j) ∧ (∀ j, j < (Int.toNat x2') → A3' j = (updF A3 (Int.toNat x2) x8) j) ∧ (∀ j, j < (Int.toNat x2') → A4' j = (updF A4 (Int.toNat x2) x9) j) ∧ (∀ j, j < (Int.toNat x2') → A5' j = (updF A5 (Int.toNat x2) x10) j) ∧ (∀ j, j < (Int.toNat x2') → A6' j = (updF A6 (Int.toNat x2) x11) j) ∧ (∀ j, j < (Int.toNat x2') → A7' j = (updF A7 (Int.toNat x2) x12) j) ∧ (∀ j, j < (Int.toNat x2') → A8' j = (updF A8 (Int.toNat x2) x13) j) ∧ v3' = v6 ∧ x3' = (x3 + 1) ∧ (∀ j, j < (Int.toNat x3') → A9' j = (updF A9 (Int.toNat x3) x1) j) ∧ I0x2 ⟨[], [v2', v3'], [x0', x1', x2', x3'], [A1', A2', A3', A4', A5', A6', A7', A8', A9'], [], [p1'], []⟩ ∧ m0x2 ⟨[], [v2', v3'], [x0', x1', x2', x3'], [A1', A2', A3', A4', A5', A6', A7', A8', A9'], [], [p1'], []⟩ < m0x2 ⟨[], [v2, v3], [x0, x1, x2, x3], [A1, A2, A3, A4, A5, A6, A7, A8, A9], [], [p1], []⟩))))))))))))))))))))) (
 Post (.tuple #[v2.v, v3.v, .int .i64 0, .int .i64 0]) [p1, sliHP true 39 8 v2.v (Int.toNat x2) (tabL (Int.toNat x2) [colI .u8 1 A1, colI .u8 1 A2, colI .u8 1 A3, colI .u8 1 A4, colI .u8 1 A5, colI .i64 1 A6, colI .u64 1 A7, colV 1 (fun j => bslV (A8 j))]), sliHP true 3 1 v3.v (Int.toNat x3) (tabL (Int.toNat x3) [colI .i64 1 A9])]))))
theorem vc_rread (P : Program) (Post : Value → List HP → Prop) (A0 : Nat → Int) (p0 : HP) (L : Nat → LC) : VC P (fun v hs => Post v (hs.take 3)) fm_rread { iv := [], av := [A0], bo := [], bv := [], vv := [], pv := [p0] } L = st_rread P Post A0 p0 := by kernel_rfl
theorem run_rread : runF cx 9 ([SV.strE (E.avar 0)]) ([Ck.abs 0]) ({ b := 0, v := 0, i := 0, a := 1, bo := 0, p := 1, r := 0 }) Tryz.f9 = fm_rread := rfl
end Go.RX.Sv

namespace Go.RX.Sv
open Go Go.RX Go.Proofs Go.RX.Ln Go.RX.Su
/-- Moves with their lines' numbers; the error's line, and the error. -/
abbrev RR := List (Mv × Int) × Int × Int
def goR : List (List UInt8) → Int → List (Mv × Int) → RR
  | [], _, acc => (acc, 0, 0)
  | s :: r, n, acc => if wordsR s = [] then goR r (n + 1) acc else
    match oneR (wordsR s) with
    | .inl z => (acc, n, z)
    | .inr m => if acc.length = 1000 then (acc, n, 3) else goR r (n + 1) (acc ++ [(m, n)])
def readR (l : List UInt8) : RR := goR (splitL 10 l) 1 []
theorem oneG_err : ∀ (fs : List (Int × List UInt8 × List UInt8)) (ws : List (List UInt8)) (z : Int), oneG fs ws = .inl z → z = 2 ∨ z = 5
  | [], ws, z, h => by cases h; exact .inl rfl
  | (k, w, f) :: r, ws, z, h => by
    rw [oneG] at h
    split at h
    · split at h
      · cases h; exact .inl rfl
      · unfold finR at h
        split at h
        · cases h; exact .inr rfl
        · cases h
    · exact oneG_err r ws z h
theorem wordsG_len : ∀ (r w x : List UInt8), x ∈ wordsG r w → x.length ≤ r.length + w.length
  | [], w, x, h => by
    rw [wordsG] at h
    split at h
    · cases h
    · rw [List.mem_singleton] at h; subst h; simp
  | c :: r, w, x, h => by
    rw [wordsG] at h
    split at h
    · have := wordsG_len r (w ++ [c]) x h
      simp at this ⊢
      omega
    · rw [List.mem_append] at h
      rcases h with h | h
      · split at h
        · cases h
        · rw [List.mem_singleton] at h; subst h; simp
      · split at h
        · cases h
        · have := wordsG_len r [] x h
          simp at this ⊢
          omega
/-- What is left of a text's lines. -/
def restL (l : List UInt8) (q : Int) : List (List UInt8) := if q ≤ l.length then splitL 10 (l.drop q.toNat) else []
theorem rest_line (l : List UInt8) (q p : Int) (h0 : 0 ≤ q) (h1 : q ≤ p) (h2 : p ≤ l.length) (hn : ∀ j (hj : j < l.length), q ≤ (j : Int) → (j : Int) < p → l[j]'hj ≠ 10)
    (he : ∀ hp : p < l.length, l[p.toNat]'(by omega) = 10) : restL l q = (l.drop q.toNat).take (p - q).toNat :: restL l (p + 1) := by
  have hmem : (10 : UInt8) ∉ (l.drop q.toNat).take (p - q).toNat := by
    intro h
    obtain ⟨j, hj, e⟩ := List.getElem_of_mem h
    rw [List.length_take, List.length_drop] at hj
    rw [List.getElem_take, List.getElem_drop] at e
    exact hn (q.toNat + j) (by omega) (by omega) (by omega) e
  unfold restL
  rw [if_pos (by omega)]
  by_cases hp : p < l.length
  · rw [if_pos (by omega)]
    have ed : l.drop p.toNat = 10 :: l.drop (p + 1).toNat := by
      rw [List.drop_eq_getElem_cons (show p.toNat < l.length by omega), he hp, show (p + 1).toNat = p.toNat + 1 by omega]
    have e : l.drop q.toNat = (l.drop q.toNat).take (p - q).toNat ++ 10 :: l.drop (p + 1).toNat := by
      conv => lhs; rw [← List.take_append_drop (p - q).toNat (l.drop q.toNat)]
      rw [List.drop_drop, show q.toNat + (p - q).toNat = p.toNat by omega, ed]
    conv => lhs; rw [e]
    rw [splitL_app 10 _ _ hmem]
  · rw [if_neg (by omega)]
    rw [List.take_of_length_le (by rw [List.length_drop]; omega)] at hmem ⊢
    rw [splitL_one 10 _ hmem]
def Has (K : BSet) (e : Int) (b : List UInt8) : Prop := (e = 0 ∧ b = []) ∨ (e, b) ∈ K
theorem Grow.has {K K' : BSet} {e : Int} {b : List UInt8} (h : Grow K K' e b) : Has K' e b ∧ ∀ p ∈ K, p ∈ K' := by
  rcases h with ⟨rfl, rfl, rfl⟩ | rfl
  · exact ⟨.inl ⟨rfl, rfl⟩, fun _ h => h⟩
  · exact ⟨.inr (by simp), fun _ h => List.mem_append_left _ h⟩
def Row (K : BSet) (x : Mv × Int) (a1 a2 a3 a4 a5 a6 a7 a8 a9 : Int) : Prop :=
  (a1 = x.1.k ∧ a2 = x.1.d1 ∧ a3 = x.1.d2 ∧ a4 = x.1.p1 ∧ a5 = x.1.p2 ∧ a6 = x.1.n ∧ a7 = x.1.c) ∧ Has K a8 x.1.b ∧ a9 = x.2
def TabI (K : BSet) (xs : List (Mv × Int)) (A1 A2 A3 A4 A5 A6 A7 A8 A9 : Nat → Int) : Prop :=
  ∀ j x, xs[j]? = some x → Row K x (A1 j) (A2 j) (A3 j) (A4 j) (A5 j) (A6 j) (A7 j) (A8 j) (A9 j)
theorem TabI.put {K K' : BSet} {xs : List (Mv × Int)} {A1 A2 A3 A4 A5 A6 A7 A8 A9 : Nat → Int} (h : TabI K xs A1 A2 A3 A4 A5 A6 A7 A8 A9) (hK : ∀ p ∈ K, p ∈ K') {x : Mv × Int} {a1 a2 a3 a4 a5 a6 a7 a8 a9 : Int}
    (hx : Row K' x a1 a2 a3 a4 a5 a6 a7 a8 a9) : TabI K' (xs ++ [x]) (updF A1 xs.length a1) (updF A2 xs.length a2) (updF A3 xs.length a3) (updF A4 xs.length a4) (updF A5 xs.length a5) (updF A6 xs.length a6) (updF A7 xs.length a7) (updF A8 xs.length a8) (updF A9 xs.length a9) := by
  intro j y hy
  by_cases hj : j = xs.length
  · subst hj
    simp at hy
    subst hy
    simp only [updF, if_true]
    exact hx
  · have hlt : j < xs.length := by
      have := (List.getElem?_eq_some_iff.1 hy).1
      simp at this
      omega
    rw [List.getElem?_append_left hlt] at hy
    simp only [updF, if_neg hj]
    obtain ⟨h1, h2, h3⟩ := h j y hy
    exact ⟨h1, h2.imp id (hK _), h3⟩
/-- A row of moves, and of their lines' numbers. -/
def tabM (n : Nat) (A1 A2 A3 A4 A5 A6 A7 A8 : Nat → Int) : List Value := tabL n [colI .u8 1 A1, colI .u8 1 A2, colI .u8 1 A3, colI .u8 1 A4, colI .u8 1 A5, colI .i64 1 A6, colI .u64 1 A7, colV 1 (fun j => bslV (A8 j))]
def ReadQ (r : RR) (x : Value) (hs : List HP) : Prop := ∃ (v w : V1) (K : BSet) (A1 A2 A3 A4 A5 A6 A7 A8 A9 : Nat → Int), x = .tuple #[v.v, w.v, .int .i64 r.2.1, .int .i64 r.2.2] ∧ TabI K r.1 A1 A2 A3 A4 A5 A6 A7 A8 A9 ∧
  hs = [setHP K, sliHP true 39 8 v.v r.1.length (tabM r.1.length A1 A2 A3 A4 A5 A6 A7 A8), sliHP true 3 1 w.v r.1.length (tabL r.1.length [colI .i64 1 A9])]
theorem rread_meets (K : BSet) (l : List UInt8) (hl : l.length ≤ 10000) : Meets Tryz.prog 9 [strV l] [setHP K] (ReadQ (readR l)) := by
  have e0 : strV l = (SV.strE (.avar 0)).val { av := [rowS l], pv := [setHP K] } := strV_row l
  rw [e0]
  have h := Meets.of_runE (C := cx) (cnt := { a := 1, p := 1 }) (ρ := { av := [rowS l], pv := [setHP K] }) okT okFT okM Tryz.func9 (by constructor <;> rfl)
    (Post := fun x hs => ReadQ (readR l) x (hs.take 3)) (args := [.strE (.avar 0)]) (hp := [.abs 0]) run_rread
    (vc_rread Tryz.prog (ReadQ (readR l)) (rowS l) (setHP K) (fun _ => LC.none)) ?_
  · exact Meets.post h fun x hs hq => ⟨hs.take 3, Ent.sub (List.take_sublist 3 hs), hq⟩
  unfold st_rread
  rw [rowS0]
  refine ⟨by omega, fun _ => ⟨fun h => by omega, fun _ => ?_⟩⟩
  refine ⟨fun e => ∃ (K : BSet) (xs : List (Mv × Int)), e.p.getD 0 HP.emp = setHP K ∧ e.i.getD 2 0 = xs.length ∧ e.i.getD 3 0 = xs.length ∧ xs.length ≤ 1000 ∧ 0 ≤ e.i.getD 0 0 ∧ e.i.getD 0 0 ≤ l.length + 1 ∧ 1 ≤ e.i.getD 1 0 ∧ e.i.getD 1 0 ≤ e.i.getD 0 0 + 1 ∧
      TabI K xs (e.a.getD 0 fun _ => 0) (e.a.getD 1 fun _ => 0) (e.a.getD 2 fun _ => 0) (e.a.getD 3 fun _ => 0) (e.a.getD 4 fun _ => 0) (e.a.getD 5 fun _ => 0) (e.a.getD 6 fun _ => 0) (e.a.getD 7 fun _ => 0) (e.a.getD 8 fun _ => 0) ∧
      goR (restL l (e.i.getD 0 0)) (e.i.getD 1 0) xs = readR l, fun e => ((l.length : Int) + 1 - e.i.getD 0 0).toNat, ?_, ?_⟩
  · refine ⟨_, _, 0, 1, 0, 0, fun _ => 0, fun _ => 0, fun _ => 0, fun _ => 0, fun _ => 0, fun _ => 0, fun _ => 0, fun _ => 0, fun _ => 0, setHP K, rfl, rfl, rfl, rfl, rfl, rfl, rfl, fun _ _ => rfl, fun _ _ => rfl, fun _ _ => rfl, fun _ _ => rfl, fun _ _ => rfl, fun _ _ => rfl, fun _ _ => rfl, fun _ _ => rfl, rfl, rfl, fun _ _ => rfl, ?_⟩
    refine ⟨K, [], rfl, rfl, rfl, by simp, by simp, by simp; omega, by simp, by simp, fun j x hx => by simp at hx, ?_⟩
    show goR (restL l 0) 1 [] = readR l
    unfold restL readR
    rw [if_pos (by omega)]
    rfl
  rintro v w q n m m2 A1 A2 A3 A4 A5 A6 A7 A8 A9 p ⟨K, xs, hp, hm, hm2, hx, hq0, hq1, hn0, hn1, hT, hgo⟩
  simp only [List.getD_cons_zero, List.getD_cons_succ] at hp hm hm2 hq0 hq1 hn0 hn1 hT hgo
  subst hp hm hm2
  refine ⟨by omega, fun _ => ⟨fun hq => ?_, fun hq => ?_⟩⟩
  · refine ⟨fun e => q ≤ e.i.getD 0 0 ∧ e.i.getD 0 0 ≤ l.length ∧ ∀ j (hj : j < l.length), q ≤ (j : Int) → (j : Int) < e.i.getD 0 0 → l[j]'hj ≠ 10, fun e => ((l.length : Int) - e.i.getD 0 0).toNat, ⟨q, rfl, by simp, by simpa using hq, ?_⟩, ?_⟩
    · intro j hj h1 h2
      simp only [List.getD_cons_zero] at h2
      omega
    rintro r ⟨hr0, hr1, hr⟩
    simp only [List.getD_cons_zero] at hr0 hr1 hr
    refine ⟨by omega, fun _ => ⟨by omega, fun _ => ⟨by omega, fun _ => ⟨fun h => ?_, fun h => ?_⟩⟩⟩⟩
    · rw [sby_row l _ (by omega)] at h
      refine ⟨by omega, fun _ => ⟨by omega, fun _ => ⟨r + 1, rfl, ⟨?_, ?_, ?_⟩, ?_⟩⟩⟩
      all_goals simp only [List.getD_cons_zero]
      · omega
      · omega
      · intro j hj h1 h2
        by_cases hjr : (j : Int) < r
        · exact hr j hj h1 hjr
        · obtain rfl : j = r.toNat := by omega
          intro e
          rw [e] at h
          exact h.2 rfl
      · omega
    · have hline := rest_line l q r hq0 hr0 hr1 hr (fun hrl => by
        rw [sby_row l _ (by omega)] at h
        refine Classical.byContradiction fun hc => h ⟨hrl, fun e => hc (UInt8.toNat_inj.1 ?_)⟩
        have e10 : (10 : UInt8).toNat = 10 := rfl
        omega)
      rw [hline] at hgo
      have es : strD (updF (shiftF (rowS l) q.toNat) 0 (r - q)) = (l.drop q.toNat).take (r - q).toNat := by
        have := mid_rowS l q.toNat r.toNat (by omega) (by omega)
        rw [show (r - q).toNat = r.toNat - q.toNat by omega, ← this]
        congr 2
        omega
      have hsl : ((l.drop q.toNat).take (r - q).toNat).length ≤ 10000 := by rw [List.length_take, List.length_drop]; omega
      rw [es]
      generalize (l.drop q.toNat).take (r - q).toNat = s at hgo hsl ⊢
      rw [goR] at hgo
      refine ⟨by omega, fun _ => ⟨by omega, fun _ => ⟨by omega, fun _ => ⟨_, rwords_meets s (by omega), ?_⟩⟩⟩⟩
      rintro x hs ⟨v4, rfl, rfl⟩
      refine ⟨v4, (wordsR s).length, tabO (wordsR s), rfl, ?_, ?_⟩
      · rw [Int.toNat_natCast, tab_strs _ _ fun j _ => tabO_at (wordsR s) j]
      rw [Int.toNat_natCast, tab_strs _ _ fun j _ => tabO_at (wordsR s) j]
      refine ⟨by omega, fun _ => ⟨by omega, fun _ => ⟨by omega, fun _ => ⟨fun hw => ?_, fun hw => ?_⟩⟩⟩⟩
      · rw [if_pos (List.eq_nil_of_length_eq_zero (by omega))] at hgo
        refine ⟨by omega, fun _ => ⟨by omega, fun _ => ?_⟩⟩
        refine ⟨v, w, r + 1, n + 1, xs.length, xs.length, A1, A2, A3, A4, A5, A6, A7, A8, A9, setHP K, rfl, rfl, rfl, rfl, rfl, rfl, rfl, fun _ _ => rfl, fun _ _ => rfl, fun _ _ => rfl, fun _ _ => rfl, fun _ _ => rfl, fun _ _ => rfl, fun _ _ => rfl, fun _ _ => rfl, rfl, rfl, fun _ _ => rfl, ⟨K, xs, rfl, rfl, rfl, hx, ?_, ?_, ?_, ?_, hT, hgo⟩, ?_⟩
        all_goals simp only [List.getD_cons_zero, List.getD_cons_succ]
        all_goals omega
      · have hne : wordsR s ≠ [] := fun e => hw (by rw [e]; rfl)
        rw [if_neg hne] at hgo
        have hwl : ∀ y ∈ wordsR s, y.length ≤ 1000000 := fun y hy => by
          have := wordsG_len s [] y hy
          simp at this
          omega
        refine ⟨_, rone_meets K v4 (wordsR s) (List.length_pos_iff.2 hne) hwl, ?_⟩
        intro x hs hq1'
        rcases ho : oneR (wordsR s) with z | mv
        · rw [ho] at hq1' hgo
          obtain ⟨rfl, rfl⟩ := hq1'
          have hz := oneG_err formsL _ z ho
          refine ⟨0, 0, 0, 0, 0, 0, 0, 0, z, setHP K, rfl, rfl, fun _ => ⟨by omega, fun _ => ⟨fun h0 => by omega, fun _ => ⟨fun _ => ?_, fun h0 => by omega⟩⟩⟩⟩
          refine ⟨v, w, K, A1, A2, A3, A4, A5, A6, A7, A8, A9, ?_, ?_, ?_⟩
          · rw [← hgo]
          · rw [← hgo]; exact hT
          · rw [← hgo, Int.toNat_natCast]; rfl
        · rw [ho] at hq1' hgo
          obtain ⟨e, K', rfl, rfl, hG⟩ := hq1'
          obtain ⟨hH, hKK⟩ := Grow.has hG
          simp only at hgo
          refine ⟨mv.k, mv.d1, mv.d2, mv.p1, mv.p2, mv.n, mv.c, e, 0, setHP K', rfl, rfl, fun _ => ⟨by omega, fun _ => ⟨fun h0 => ?_, fun h0 => ⟨fun h1 => absurd rfl h1, fun _ => ?_⟩⟩⟩⟩
          · rw [if_pos (by omega)] at hgo
            refine ⟨v, w, K', A1, A2, A3, A4, A5, A6, A7, A8, A9, ?_, ?_, ?_⟩
            · rw [← hgo]
            · rw [← hgo]
              intro j y hy
              obtain ⟨h1, h2, h3⟩ := hT j y hy
              exact ⟨h1, h2.imp id (hKK _), h3⟩
            · rw [← hgo, Int.toNat_natCast]; rfl
          · rw [if_neg (by omega)] at hgo
            have hP := hT.put hKK (x := (mv, n)) (a1 := mv.k) (a2 := mv.d1) (a3 := mv.d2) (a4 := mv.p1) (a5 := mv.p2) (a6 := mv.n) (a7 := mv.c) (a8 := e) (a9 := n) ⟨⟨rfl, rfl, rfl, rfl, rfl, rfl, rfl⟩, hH, rfl⟩
            refine fun _ => ⟨by omega, fun _ => ⟨by omega, fun _ => fun v5 => fun _ => ⟨by omega, fun _ => ⟨by omega, fun _ => fun v6 => ⟨by omega, fun _ => ⟨by omega, fun _ => ?_⟩⟩⟩⟩⟩⟩
            rw [Int.toNat_natCast]
            refine ⟨v5, v6, r + 1, n + 1, xs.length + 1, xs.length + 1, _, _, _, _, _, _, _, _, _, setHP K', rfl, rfl, rfl, rfl, rfl, rfl, rfl, fun _ _ => rfl, fun _ _ => rfl, fun _ _ => rfl, fun _ _ => rfl, fun _ _ => rfl, fun _ _ => rfl, fun _ _ => rfl, fun _ _ => rfl, rfl, rfl, fun _ _ => rfl, ⟨K', xs ++ [(mv, n)], rfl, ?_, ?_, ?_, ?_, ?_, ?_, ?_, hP, hgo⟩, ?_⟩
            all_goals simp only [List.getD_cons_zero, List.getD_cons_succ, List.length_append, List.length_singleton]
            all_goals omega
  · unfold restL at hgo
    rw [if_neg hq, goR] at hgo
    refine ⟨v, w, K, A1, A2, A3, A4, A5, A6, A7, A8, A9, ?_, ?_, ?_⟩
    · rw [← hgo]
    · rw [← hgo]; exact hT
    · rw [← hgo, Int.toNat_natCast]; rfl
end Go.RX.Sv
