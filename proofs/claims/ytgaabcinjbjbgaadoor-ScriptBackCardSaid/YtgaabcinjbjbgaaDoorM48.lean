/- Reading of moves: the library's fields at a blank are the words. · Reading of moves, the program's side: a line's words. · Reading of a text, the program's side: moves, or the error's line. · ScriptReads: the law over what is laid. -/
import Derived.Test.YtgaabcinjbjbgaaDoorM43
import Derived.Lib.FieldsU
import Derived.Test.YtgaabcinjbjbgaaDoorM29
import Derived.Test.YtgaabcinjbjbgaaDoorSwF
import Derived.Test.YtgaabcinjbjbgaaDoorStO
import Derived.Test.YtgaabcinjbjbgaaDoorM38
import Derived.Test.YtgaabcinjbjbgaaDoorM41
import Derived.Test.YtgaabcinjbjbgaaDoorScOk

namespace Go.RX.Su
open Go Go.Lib
theorem get_l (s : ByteArray) (i : Nat) (h : i < s.size) : s.get! i = s.data.toList[i]'(by simpa using h) := by
  rcases s with ⟨a⟩
  have h' : i < a.size := h
  simp [ByteArray.get!, h']
def isB (r : Nat) : Bool := decide (r = 32)
theorem spansP_eq (s : ByteArray) : ∀ (f pos : Nat) (st : Option Nat) (acc : List (Nat × Nat)), s.size ≤ pos + f → pos ≤ s.size → (∀ a, st = some a → a < pos) →
    acc.map (fun p => pieceU s.data.toList p.1 p.2) ++ fieldsG (s.data.toList.drop pos) (openPiece s.data.toList st pos) = (closeSpans s (spansFromP isB s f pos st acc)).map (fun p => pieceU s.data.toList p.1 p.2) := by
  have hsz : s.data.toList.length = s.size := by rw [Array.length_toList]; rfl
  have fin : ∀ (pos : Nat) (st : Option Nat) (acc : List (Nat × Nat)), pos = s.size → (∀ a, st = some a → a < pos) →
      acc.map (fun p => pieceU s.data.toList p.1 p.2) ++ fieldsG (s.data.toList.drop pos) (openPiece s.data.toList st pos) = (closeSpans s (acc, st)).map (fun p => pieceU s.data.toList p.1 p.2) := by
    intro pos st acc hp hst
    rw [List.drop_eq_nil_of_le (by omega), fieldsG]
    cases st with
    | none => simp [openPiece, closeSpans]
    | some a =>
      have hne := pieceU_ne s.data.toList a pos (hst a rfl) (by omega)
      rw [hp] at hne
      simp only [openPiece, closeSpans, List.map_append, List.map_cons, List.map_nil, hp, if_neg hne]
  intro f
  induction f with
  | zero =>
    intro pos st acc h hp hst
    exact fin pos st acc (by omega) hst
  | succ f ih =>
    intro pos st acc h hp hst
    unfold spansFromP
    by_cases hlt : pos < s.size
    · rw [if_pos hlt]
      have hl : pos < s.data.toList.length := by omega
      have hd := List.drop_eq_getElem_cons hl
      have hg := get_l s pos hlt
      by_cases ha : (s.get! pos).toNat < 128
      · rw [dec_ascii s pos ha]
        simp only
        by_cases h32 : (s.get! pos).toNat = 32
        · have hc : s.data.toList[pos]'hl = 32 := UInt8.toNat_inj.1 (by rw [← hg]; exact h32)
          rw [if_pos (by simp [isB, h32])]
          cases st with
          | none =>
            simp only
            rw [← ih (pos + 1) none acc (by omega) (by omega) (by simp), hd, fieldsG, if_neg (by simpa using hc)]
            simp [openPiece]
          | some a =>
            simp only
            have hne := pieceU_ne s.data.toList a pos (hst a rfl) (by omega)
            rw [← ih (pos + 1) none (acc ++ [(a, pos)]) (by omega) (by omega) (by simp), hd, fieldsG, if_neg (by simpa using hc)]
            simp [openPiece, hne]
        · have hc : s.data.toList[pos]'hl ≠ 32 := fun e => h32 (by rw [hg, e]; rfl)
          rw [if_neg (by simp [isB, h32])]
          have hone : (s.data.toList.drop pos).take 1 = [s.data.toList[pos]'hl] := by rw [hd]; rfl
          cases st with
          | none =>
            simp only
            rw [← ih (pos + 1) (some pos) acc (by omega) (by omega) (by simp), hd, fieldsG, if_pos hc]
            have : pieceU s.data.toList pos (pos + 1) = [s.data.toList[pos]'hl] := by unfold pieceU; rw [show pos + 1 - pos = 1 by omega, hone]
            simp only [openPiece, this, List.nil_append]
          | some a =>
            simp only
            rw [← ih (pos + 1) (some a) acc (by omega) (by omega) (by intro b hb; cases hb; have := hst a rfl; omega), hd, fieldsG, if_pos hc]
            have := pieceU_grow s.data.toList a pos 1 (by have := hst a rfl; omega)
            rw [hone] at this
            simp only [openPiece, this]
      · obtain ⟨h1, h2, h3⟩ := dec_wide s pos ha
        generalize hw : (Utf8.decode s pos).2 = w at h2 h3 ⊢
        generalize hr : (Utf8.decode s pos).1 = r at h1 ⊢
        have hpw : pos + w ≤ s.size := by
          by_cases hw1 : w = 1
          · omega
          · have := (h3 (w - 1) (by omega) (by omega)).1
            omega
        have hx : ∀ c ∈ (s.data.toList.drop pos).take w, c ≠ 32 := by
          intro c hcm
          obtain ⟨j, hj, rfl⟩ := List.getElem_of_mem hcm
          rw [List.length_take, List.length_drop] at hj
          rw [List.getElem_take, List.getElem_drop]
          intro e
          have h128 : 128 ≤ (s.get! (pos + j)).toNat := by
            by_cases hj0 : j = 0
            · rw [hj0, Nat.add_zero]; omega
            · exact (h3 j (by omega) (by omega)).2
          rw [get_l s (pos + j) (by omega), e] at h128
          exact absurd h128 (by decide)
        rw [if_neg (by simp [isB]; omega)]
        have hsp : ∀ cur, fieldsG (s.data.toList.drop pos) cur = fieldsG (s.data.toList.drop (pos + w)) (cur ++ (s.data.toList.drop pos).take w) := by
          intro cur
          conv => lhs; rw [← List.take_append_drop w (s.data.toList.drop pos)]
          rw [fieldsG_app _ _ _ hx, List.drop_drop]
        cases st with
        | none =>
          simp only
          rw [← ih (pos + w) (some pos) acc (by omega) (by omega) (by intro b hb; cases hb; omega), hsp]
          have : pieceU s.data.toList pos (pos + w) = (s.data.toList.drop pos).take w := by unfold pieceU; rw [show pos + w - pos = w by omega]
          simp only [openPiece, this, List.nil_append]
        | some a =>
          simp only
          rw [← ih (pos + w) (some a) acc (by omega) (by omega) (by intro b hb; cases hb; have := hst a rfl; omega), hsp]
          have := pieceU_grow s.data.toList a pos w (by have := hst a rfl; omega)
          simp only [openPiece, this]
    · rw [if_neg hlt]
      exact fin pos st acc (by omega) hst
theorem piece_x (s : ByteArray) (a b : Nat) : (s.extract a b).data.toList = pieceU s.data.toList a b := by
  unfold pieceU
  rw [ByteArray.data_extract, Array.toList_extract, List.extract_eq_take_drop]
theorem fieldsP_words (l : List UInt8) : (goFieldsP isB ⟨l.toArray⟩).map (fun x => x.data.toList) = fieldsG l [] := by
  have h := spansP_eq ⟨l.toArray⟩ (ByteArray.size ⟨l.toArray⟩) 0 none [] (by omega) (by omega) (by simp)
  simp only [List.map_nil, List.nil_append, List.drop_zero, openPiece] at h
  unfold goFieldsP spansOfP
  rw [List.map_map, h]
  refine List.map_congr_left fun x _ => ?_
  exact piece_x _ _ _
end Go.RX.Su

namespace Go.RX.St
open Go Go.RX Go.Proofs Go.RX.Ln Go.RX.Su Go.RowKit Go.Lib Go.Sort
variable {n0 : Nat} {w0 : World}
theorem blank_at (w : World) : PredAt Tryd.prog 30 #[] encR isB w := fun W r _ => by
  unfold FnGives
  go_enter Tryd.func30, Tryd.ntmps30
  go_wp2
  go_ret
  refine ⟨?_, 0, rfl⟩
  have e : isB r = ((r : Int) == 32) := by
    unfold isB
    rw [Bool.eq_iff_iff]
    simp only [decide_eq_true_eq, beq_iff_eq]
    omega
  rw [e]
  first
    | rfl
    | trace_state
theorem fields_meets (l : List UInt8) (hl : l.length ≤ 1000000) : Meets Tryd.prog 29 [strV l, .func (.func 30) #[] #[]] [keptHP n0 w0] fun x hs => ∃ v : V1, x = v.v ∧ hs = [keptHP n0 w0, sliHP true 9 1 v.v (fieldsG l []).length ((fieldsG l []).map strV)] := by
  intro w Fs ho
  have hf := fieldsP_words l
  refine (Tryd.strings_FieldsFunc 30 #[] (enters_of Tryd.func30 (by kernel_rfl) rfl) isB ⟨l.toArray⟩ w (by simp [ByteArray.size]; omega) (blank_at w)).mono ?_
  rintro e w' ⟨A, rfl, hA, hown, hb⟩
  have hlen : (goFieldsP isB ⟨l.toArray⟩).length = (fieldsG l []).length := by rw [← hf, List.length_map]
  have hcs : (goFieldsP isB ⟨l.toArray⟩).map Value.string = (fieldsG l []).map strV := by
    rw [← hf, List.map_map]
    refine List.map_congr_left fun x _ => ?_
    rcases x with ⟨a⟩
    simp [strV]
  rw [hcs] at hown
  rw [hlen] at hown ⊢
  generalize fieldsG l [] = fs at hown ⊢
  refine ⟨_, _, rfl, ⟨⟨.slice (some ⟨A, 0, none⟩) fs.length fs.length, rfl⟩, rfl, rfl⟩, ?_, ?_⟩
  · refine Owns.add (a := [keptHP n0 w0]) ho (sliHP true 9 1 (.slice (some ⟨A, 0, none⟩) fs.length fs.length) fs.length (fs.map strV)) (fun k => k = A) hb.size (fun k hk => hb.block k hk) ⟨?_, fun k => ?_⟩ (fun k hk => ?_)
    · simp only [if_true]
      obtain ⟨hl, hr⟩ := hown
      refine ⟨hl, ?_⟩
      rcases hr with hn | ⟨g, cap, cur, he, _, hg, hnc, hcm, hcs, htk⟩
      · exact .inl hn
      · exact .inr ⟨g, 0, cap, cur, he, ⟨9, hg⟩, hnc, hcm, by omega, by simpa using htk⟩
    · simp [Value.ownBlock, eq_comm]
    · subst hk
      refine ⟨hA, ?_⟩
      obtain ⟨hl, hr⟩ := hown
      rcases hr with hn | ⟨g, cap, cur, he, _, hg, _⟩
      · simp at hn
      · simp only [Value.slice.injEq, Option.some.injEq, Addr.mk.injEq] at he
        obtain ⟨⟨rfl, _⟩, _⟩ := he
        exact (Array.getElem?_eq_some_iff.1 hg).1
  · exact ⟨hb.os, hb.tape, hb.output, hb.size⟩
end Go.RX.St

namespace Go.RX.Sw
open Go Go.RX Go.Proofs Go.RX.Ln Go.RX.Su Go.RX.Sv Go.RX.St
variable {n0 : Nat} {w0 : World}
theorem strD_drop (A : Nat → Int) (p : Int) (h0 : 0 ≤ p) (h1 : p ≤ A 0) : strD (updF (shiftF A p.toNat) 0 (A 0 - p)) = (strD A).drop p.toNat := by
  apply List.ext_getElem?
  intro j
  rw [List.getElem?_drop]
  unfold strD
  rw [List.getElem?_map, List.getElem?_map]
  simp only [updF, if_true, shiftF, Nat.succ_ne_zero, if_false]
  by_cases hj : j < (A 0 - p).toNat
  · rw [List.getElem?_range hj, List.getElem?_range (by omega)]
    simp [Nat.add_assoc]
  · rw [List.getElem?_eq_none (by simp; omega), List.getElem?_eq_none (by simp; omega)]
    rfl
theorem strD_take (A : Nat → Int) (p : Int) (h1 : p ≤ A 0) : strD (updF A 0 p) = (strD A).take p.toNat := by
  apply List.ext_getElem?
  intro j
  rw [List.getElem?_take]
  unfold strD
  rw [List.getElem?_map, List.getElem?_map]
  simp only [updF, if_true, Nat.succ_ne_zero, if_false]
  by_cases hj : j < p.toNat
  · rw [List.getElem?_range hj, List.getElem?_range (by omega), if_pos hj]
  · rw [List.getElem?_eq_none (by simpa using hj), if_neg hj]
    rfl
theorem words_step (hL : Laid0 w0 n0) (S : List UInt8) (hS : S.length ≤ 1000000) (Φ : V1 → Int → (Nat → Int) → Prop) (h : ∀ v : V1, Φ v (wordsR S).length (tabO (wordsR S))) :
    ∃ post, Meets Tryd.prog 28 [.string ⟨S.toArray⟩, .string ⟨#[35]⟩] [keptHP n0 w0] post ∧
      ∀ x hs, post x hs → ∃ A10 : (Nat → Int), ∃ A11 : (Nat → Int), ∃ q0 : Bool, x = .tuple #[.string ⟨(strD A10).toArray⟩, .string ⟨(strD A11).toArray⟩, .bool q0] ∧ hs = [keptHP n0 w0] ∧
      ∃ post, Meets Tryd.prog 29 [.string ⟨(strD A10).toArray⟩, .func (.func 30) #[] #[]] [keptHP n0 w0] post ∧
      ∀ x hs, post x hs → ∃ v2 : V1, ∃ x4 : Int, ∃ A12 : (Nat → Int), x = v2.v ∧ hs = [keptHP n0 w0, sliHP true 9 1 v2.v (Int.toNat x4) (tabL (Int.toNat x4) [colV 1 (fun j => .string ⟨(strD (at2F A12 j)).toArray⟩)])] ∧
      Need (0 ≤ x4) (Φ v2 x4 A12) := by
  refine ⟨_, cut_meets hL S [35] (by omega), ?_⟩
  rintro x hs ⟨rfl, rfl⟩
  refine ⟨rowS (Lib.cut S [35]).1, rowS (Lib.cut S [35]).2.1, (Lib.cut S [35]).2.2, ?_, rfl, ?_⟩
  · rw [← strV_row, ← strV_row]
  rw [strD_rowS]
  have hlen : (Lib.cut S [35]).1.length ≤ 1000000 := by
    rw [cut_R, cutR_while]
    have := (List.takeWhile_prefix (fun b : UInt8 => decide (b ≠ 35)) (l := S)).length_le
    omega
  refine ⟨_, fields_meets _ hlen, ?_⟩
  rw [line_words]
  rintro x hs ⟨v, rfl, rfl⟩
  refine ⟨v, (wordsR S).length, tabO (wordsR S), rfl, ?_, by omega, fun _ => h v⟩
  rw [Int.toNat_natCast, tab_strs _ _ fun j _ => tabO_at (wordsR S) j]
theorem words_len (s : List UInt8) (hs : s.length ≤ 500000) : ∀ y ∈ wordsR s, y.length ≤ 1000000 := fun y hy => by
  have := wordsG_len s [] y hy
  simp at this
  omega
def PReadQ (L : HP) (r : RR) (x : Value) (hs : List HP) : Prop :=
  (r.2.2 = 0 ∧ ∃ (v : V1) (K : BSet) (A1 A2 A3 A4 A5 A6 A7 A8 A9 : Nat → Int), x = .tuple #[v.v, .int .i64 0, .int .i64 0] ∧ TabI K r.1 A1 A2 A3 A4 A5 A6 A7 A8 A9 ∧
    hs = [L, setHP K, sliHP true 36 8 v.v r.1.length (tabM r.1.length A1 A2 A3 A4 A5 A6 A7 A8)]) ∨
  (r.2.2 ≠ 0 ∧ ∃ K : BSet, x = .tuple #[.slice none 0 0, .int .i64 r.2.1, .int .i64 r.2.2] ∧ hs = [L, setHP K])
def PRaw (L : HP) (r : RR) (x : Value) (hs : List HP) : Prop :=
  (r.2.2 = 0 ∧ ∃ (v : V1) (K : BSet) (A1 A2 A3 A4 A5 A6 A7 A8 A9 : Nat → Int), x = .tuple #[v.v, .int .i64 0, .int .i64 0] ∧ TabI K r.1 A1 A2 A3 A4 A5 A6 A7 A8 A9 ∧
    ∃ mid rest, hs = [L, setHP K] ++ mid ++ sliHP true 36 8 v.v r.1.length (tabM r.1.length A1 A2 A3 A4 A5 A6 A7 A8) :: rest) ∨
  (r.2.2 ≠ 0 ∧ ∃ K : BSet, x = .tuple #[.slice none 0 0, .int .i64 r.2.1, .int .i64 r.2.2] ∧ ∃ rest, hs = [L, setHP K] ++ rest)
theorem index_lt (c : UInt8) : ∀ (l : List UInt8), 0 ≤ Lib.index l [c] → Lib.index l [c] < l.length
  | [], h => by rw [index_nil] at h; omega
  | b :: r, h => by
    rw [index_cons] at h ⊢
    have ih := index_lt c r
    have hg := Lib.index_ge r [c]
    rw [List.length_cons]
    split
    · omega
    · rename_i hb
      rw [if_neg hb] at h
      split
      · omega
      · rename_i hr
        rw [if_neg hr] at h
        have := ih (by omega)
        omega
theorem splitL_end (l : List UInt8) (x : Int) (hx : x = Lib.indexByte l 10) (h : x < 0) : splitL 10 l = [l] := by
  refine splitL_miss 10 l ?_
  have h1 := Lib.index_one l 10
  have h2 := Lib.index_ge l [10]
  omega
theorem splitL_at (l : List UInt8) (x : Int) (hx : x = Lib.indexByte l 10) (h : ¬ x < 0) : x < l.length ∧ splitL 10 l = l.take x.toNat :: splitL 10 (l.drop (x + 1).toNat) := by
  have h1 := Lib.index_one l 10
  have h2 := splitL_hit 10 l x.toNat (by omega)
  refine ⟨by have := index_lt 10 l (by omega); omega, ?_⟩
  rw [h2, show (x + 1).toNat = x.toNat + 1 by omega]
def preadR (l : List UInt8) : RR := if 262144 < l.length then ([], 0, 3) else readR l
theorem pread_meets (hL : Laid0 w0 n0) (K : BSet) (l : List UInt8) (hl : l.length ≤ 500000) : Meets Tryd.prog 8 [strV l] [keptHP n0 w0, setHP K] (PReadQ (keptHP n0 w0) (preadR l)) := by
  have e0 : strV l = (SV.strE (.avar 0)).val { av := [rowS l], pv := [keptHP n0 w0, setHP K] } := strV_row l
  rw [e0]
  have h := Meets.of_runE (C := cx) (cnt := { a := 1, p := 2 }) (ρ := { av := [rowS l], pv := [keptHP n0 w0, setHP K] }) okT okFT okM Tryd.func8 (by constructor <;> rfl)
    (Post := PRaw (keptHP n0 w0) (preadR l)) (args := [.strE (.avar 0)]) (hp := [.abs 0, .abs 1]) run_pread
    (vc_pread Tryd.prog (PRaw (keptHP n0 w0) (preadR l)) (rowS l) (keptHP n0 w0) (setHP K) (fun _ => LC.none)) ?_
  · refine Meets.post h ?_
    rintro x hs (⟨h0, v, K, A1, A2, A3, A4, A5, A6, A7, A8, A9, rfl, hT, mid, rest, rfl⟩ | ⟨h0, K, rfl, rest, rfl⟩)
    · refine ⟨[keptHP n0 w0, setHP K, sliHP true 36 8 v.v (preadR l).1.length (tabM (preadR l).1.length A1 A2 A3 A4 A5 A6 A7 A8)], Ent.sub ?_, .inl ⟨h0, v, K, A1, A2, A3, A4, A5, A6, A7, A8, A9, rfl, hT, rfl⟩⟩
      simp
    · exact ⟨[keptHP n0 w0, setHP K], Ent.sub (List.sublist_append_left _ _), .inr ⟨h0, K, rfl, rfl⟩⟩
  unfold st_pread
  rw [rowS0]
  intro b0 b1 b2 b3
  refine ⟨by omega, fun _ => ⟨fun h => ?_, fun hbig => ?_⟩⟩
  · have : preadR l = ([], 0, 3) := if_pos (by omega)
    rw [this]
    exact .inr ⟨by decide, K, rfl, _, rfl⟩
  rw [show preadR l = readR l from if_neg (by omega)]
  intro b4 b5 b6 b7 b8 _ l10 r9
  refine ⟨fun e => ∃ (K : BSet) (xs : List (Mv × Int)) (A9 : Nat → Int), e.p.getD 0 HP.emp = setHP K ∧ e.i.getD 1 0 = xs.length ∧ e.i.getD 2 0 = xs.length ∧ xs.length ≤ 1000 ∧ 0 ≤ e.i.getD 0 0 ∧ 0 ≤ (e.a.getD 8 fun _ => 0) 0 ∧ e.i.getD 0 0 + (e.a.getD 8 fun _ => 0) 0 ≤ l.length ∧
      TabI K xs (e.a.getD 0 fun _ => 0) (e.a.getD 1 fun _ => 0) (e.a.getD 2 fun _ => 0) (e.a.getD 3 fun _ => 0) (e.a.getD 4 fun _ => 0) (e.a.getD 5 fun _ => 0) (e.a.getD 6 fun _ => 0) (e.a.getD 7 fun _ => 0) A9 ∧
      goR (splitL 10 (strD (e.a.getD 8 fun _ => 0))) (e.i.getD 0 0 + 1) xs = readR l, fun e => ((e.a.getD 8 fun _ => 0) 0).toNat, ?_, ?_⟩
  · refine ⟨⟨.slice none 0 0, rfl⟩, 0, 0, 0, fun _ => 0, fun _ => 0, fun _ => 0, fun _ => 0, fun _ => 0, fun _ => 0, fun _ => 0, fun _ => 0, rowS l, setHP K, rfl, rfl, rfl, rfl, rfl, rfl, rfl, fun _ _ => rfl, fun _ _ => rfl, fun _ _ => rfl, fun _ _ => rfl, fun _ _ => rfl, fun _ _ => rfl, fun _ _ => rfl, fun _ _ => rfl, ?_⟩
    refine ⟨K, [], fun _ => 0, rfl, rfl, rfl, by simp, by simp, ?_, ?_, fun j x hx => by simp at hx, ?_⟩
    all_goals simp only [List.getD_cons_zero, List.getD_cons_succ]
    · rw [rowS0]; omega
    · rw [rowS0]; omega
    · rw [strD_rowS]; rfl
  rintro v x0 x1 x2 A1 A2 A3 A4 A5 A6 A7 A8 A p ⟨K, xs, A9, hp, hm, hm2, hx, hn0, hA0, hn1, hT, hgo⟩
  simp only [List.getD_cons_zero, List.getD_cons_succ] at hp hm hm2 hn0 hA0 hn1 hT hgo
  subst hp hm hm2
  have hAl := strD_length A
  refine ⟨_, index_meets (strD A) 10, ?_⟩
  rintro x hs ⟨rfl, rfl⟩
  refine ⟨Lib.indexByte (strD A) 10, rfl, rfl, ?_⟩
  generalize hx3 : Lib.indexByte (strD A) 10 = x3
  refine ⟨fun h3 => ?_, fun h3 => ?_⟩
  · have hsp := splitL_end _ _ hx3.symm h3
    rw [hsp] at hgo
    simp only [goR] at hgo
    refine ⟨by omega, fun _ => ⟨by omega, fun _ => ?_⟩⟩
    have hsl : (strD A).length ≤ 500000 := by omega
    generalize strD A = s at hgo hsl ⊢
    refine words_step hL s (by omega) _ fun v2 => ?_
    simp only [Int.toNat_natCast]
    rw [tab_strs _ _ fun j _ => tabO_at (wordsR s) j]
    refine ⟨fun hw => ?_, fun hw => ?_⟩
    · rw [if_pos (List.eq_nil_of_length_eq_zero (by omega))] at hgo
      refine .inl ⟨by rw [← hgo], v, K, A1, A2, A3, A4, A5, A6, A7, A8, A9, rfl, ?_⟩
      rw [← hgo]
      exact ⟨hT, [_, _, _, _, _, _, _, _, _, _, _], _, rfl⟩
    · have hne : wordsR s ≠ [] := fun e => hw (by rw [e]; rfl)
      rw [if_neg hne] at hgo
      refine ⟨_, pmove_meets hL K v2 (wordsR s) (List.length_pos_iff.2 hne) (words_len s hsl), ?_⟩
      intro x hs hq
      rcases ho : oneR (wordsR s) with z | mv
      · rw [ho] at hq hgo
        obtain ⟨rfl, rfl⟩ := hq
        have hz := oneG_err formsL _ z ho
        refine ⟨0, 0, 0, 0, 0, 0, 0, 0, z, setHP K, rfl, rfl, fun b11 => ⟨fun h => by omega, fun _ => ⟨fun _ => ?_, fun h0 => by omega⟩⟩⟩
        refine .inr ⟨by rw [← hgo]; show z ≠ 0; omega, K, by rw [← hgo], _, rfl⟩
      · rw [ho] at hq hgo
        obtain ⟨e, K', rfl, rfl, hG⟩ := hq
        obtain ⟨hH, hKK⟩ := Grow.has hG
        simp only at hgo
        refine ⟨mv.k, mv.d1, mv.d2, mv.p1, mv.p2, mv.n, mv.c, e, 0, setHP K', rfl, rfl, fun b11 => ⟨fun h => ?_, fun h => ⟨fun h1 => absurd rfl h1, fun _ => ?_⟩⟩⟩
        · rw [if_pos (by omega)] at hgo
          exact .inr ⟨by rw [← hgo]; exact (by decide : (3 : Int) ≠ 0), K', by rw [← hgo], _, rfl⟩
        · rw [if_neg (by omega)] at hgo
          have hP := hT.put hKK (x := (mv, x0 + 1)) (a1 := mv.k) (a2 := mv.d1) (a3 := mv.d2) (a4 := mv.p1) (a5 := mv.p2) (a6 := mv.n) (a7 := mv.c) (a8 := e) (a9 := x0 + 1) ⟨⟨rfl, rfl, rfl, rfl, rfl, rfl, rfl⟩, hH, rfl⟩
          refine ⟨by omega, fun _ => ⟨by omega, fun _ b12 b13 => ⟨by omega, fun _ => ⟨by omega, fun _ v3 => ?_⟩⟩⟩⟩
          refine .inl ⟨by rw [← hgo], v3, K', updF A1 xs.length mv.k, updF A2 xs.length mv.d1, updF A3 xs.length mv.d2, updF A4 xs.length mv.p1, updF A5 xs.length mv.p2, updF A6 xs.length mv.n, updF A7 xs.length mv.c, updF A8 xs.length e, updF A9 xs.length (x0 + 1), rfl, ?_⟩
          rw [← hgo, show ((xs.length : Int) + 1).toNat = (xs ++ [(mv, x0 + 1)]).length by simp]
          exact ⟨hP, [_, _, _, _, _, _, _, _, _, _, _], _, rfl⟩
  · obtain ⟨hlt, hsp⟩ := splitL_at _ _ hx3.symm h3
    rw [hsp, ← strD_take A x3 (by omega), ← strD_drop A (x3 + 1) (by omega) (by omega)] at hgo
    simp only [goR] at hgo
    have hsl : (strD (updF A 0 x3)).length ≤ 500000 := by rw [strD_take A x3 (by omega), List.length_take]; omega
    refine ⟨by omega, fun _ => ⟨by omega, fun _ => ⟨by omega, fun _ => ⟨by omega, fun _ => ⟨by omega, fun _ => ⟨by omega, fun _ => ?_⟩⟩⟩⟩⟩⟩
    generalize strD (updF A 0 x3) = s at hgo hsl ⊢
    refine words_step hL s (by omega) _ fun v2 => ?_
    simp only [Int.toNat_natCast]
    rw [tab_strs _ _ fun j _ => tabO_at (wordsR s) j]
    refine ⟨fun hw => ?_, fun hw => ?_⟩
    · rw [if_pos (List.eq_nil_of_length_eq_zero (by omega))] at hgo
      refine ⟨by omega, fun _ => ⟨by omega, fun _ => ⟨by omega, fun _ => ⟨by omega, fun _ => ?_⟩⟩⟩⟩
      refine ⟨v, x0 + 1, xs.length, xs.length, A1, A2, A3, A4, A5, A6, A7, A8, _, setHP K, rfl, rfl, rfl, rfl, rfl, rfl, rfl, fun _ _ => rfl, fun _ _ => rfl, fun _ _ => rfl, fun _ _ => rfl, fun _ _ => rfl, fun _ _ => rfl, fun _ _ => rfl, fun _ _ => rfl, ⟨K, xs, A9, rfl, rfl, rfl, hx, ?_, ?_, ?_, hT, hgo⟩, ?_⟩
      all_goals simp only [List.getD_cons_zero, List.getD_cons_succ, updF, if_true]
      all_goals omega
    · have hne : wordsR s ≠ [] := fun e => hw (by rw [e]; rfl)
      rw [if_neg hne] at hgo
      refine ⟨_, pmove_meets hL K v2 (wordsR s) (List.length_pos_iff.2 hne) (words_len s hsl), ?_⟩
      intro x hs hq
      rcases ho : oneR (wordsR s) with z | mv
      · rw [ho] at hq hgo
        obtain ⟨rfl, rfl⟩ := hq
        have hz := oneG_err formsL _ z ho
        refine ⟨0, 0, 0, 0, 0, 0, 0, 0, z, setHP K, rfl, rfl, fun b11 => ⟨fun h => by omega, fun _ => ⟨fun _ => ?_, fun h0 => by omega⟩⟩⟩
        refine .inr ⟨by rw [← hgo]; show z ≠ 0; omega, K, by rw [← hgo], _, rfl⟩
      · rw [ho] at hq hgo
        obtain ⟨e, K', rfl, rfl, hG⟩ := hq
        obtain ⟨hH, hKK⟩ := Grow.has hG
        simp only at hgo
        refine ⟨mv.k, mv.d1, mv.d2, mv.p1, mv.p2, mv.n, mv.c, e, 0, setHP K', rfl, rfl, fun b11 => ⟨fun h => ?_, fun h => ⟨fun h1 => absurd rfl h1, fun _ => ?_⟩⟩⟩
        · rw [if_pos (by omega)] at hgo
          exact .inr ⟨by rw [← hgo]; exact (by decide : (3 : Int) ≠ 0), K', by rw [← hgo], _, rfl⟩
        · rw [if_neg (by omega)] at hgo
          have hP := hT.put hKK (x := (mv, x0 + 1)) (a1 := mv.k) (a2 := mv.d1) (a3 := mv.d2) (a4 := mv.p1) (a5 := mv.p2) (a6 := mv.n) (a7 := mv.c) (a8 := e) (a9 := x0 + 1) ⟨⟨rfl, rfl, rfl, rfl, rfl, rfl, rfl⟩, hH, rfl⟩
          refine ⟨by omega, fun _ => ⟨by omega, fun _ b12 b13 => ⟨by omega, fun _ => ⟨by omega, fun _ v3 => ⟨by omega, fun _ => ⟨by omega, fun _ => ⟨by omega, fun _ => ⟨by omega, fun _ => ?_⟩⟩⟩⟩⟩⟩⟩⟩
          refine ⟨v3, x0 + 1, xs.length + 1, xs.length + 1, _, _, _, _, _, _, _, _, _, setHP K', rfl, rfl, rfl, rfl, rfl, rfl, rfl, fun _ _ => rfl, fun _ _ => rfl, fun _ _ => rfl, fun _ _ => rfl, fun _ _ => rfl, fun _ _ => rfl, fun _ _ => rfl, fun _ _ => rfl, ⟨K', xs ++ [(mv, x0 + 1)], _, rfl, ?_, ?_, ?_, ?_, ?_, ?_, hP, hgo⟩, ?_⟩
          all_goals simp only [List.getD_cons_zero, List.getD_cons_succ, List.length_append, List.length_singleton, updF, if_true]
          all_goals omega
end Go.RX.Sw

namespace Go.RX.Tr
open Go Go.RX Go.Proofs Go.RX.Ln Go.RX.Su Go.RX.Sv Go.RX.St Go.RX.Sw Go.RX.Sx Go.RX.Sy
variable {n0 : Nat} {w0 : World}
theorem nil_sli_p (t s : Nat) (w : World) : (sliHP true t s (.slice none 0 0) 0 []).p w (fun _ => False) := by
  refine ⟨?_, fun k => ⟨False.elim, fun h => by simp [Value.ownBlock] at h⟩⟩
  simp only [if_true]
  exact ⟨by simp, .inl ⟨rfl, rfl⟩⟩
theorem nil_sli (a : List HP) (t s : Nat) : Ent a (a ++ [sliHP true t s (.slice none 0 0) 0 []]) := fun w Fs o =>
  Owns.add (a := a) (b := Fs) o _ (fun _ => False) (Nat.le_refl _) (fun _ _ => rfl) (nil_sli_p t s w) (fun _ h => h.elim)
theorem no_set (a : List HP) : Ent a (a ++ [setHP []]) :=
  Ent.trans (Ent.frame (a := []) (b := [setHP []]) (Ent.star (l := []) (by simp)) a) (Ent.perm List.perm_append_comm)
def RdQ (L : HP) (r : RR) (x : Value) (hs : List HP) : Prop :=
  ∃ (v : V1) (K : BSet) (xs : List (Mv × Int)) (A1 A2 A3 A4 A5 A6 A7 A8 A9 : Nat → Int), (r.2.2 = 0 → xs = r.1) ∧ (r.2.2 ≠ 0 → xs = []) ∧
    x = .tuple #[v.v, .int .i64 (if r.2.2 = 0 then 0 else r.2.1), .int .i64 r.2.2] ∧ TabI K xs A1 A2 A3 A4 A5 A6 A7 A8 A9 ∧
    hs = [L, setHP K, sliHP true 36 8 v.v xs.length (tabM xs.length A1 A2 A3 A4 A5 A6 A7 A8)]
theorem read_meets (hL : Laid0 w0 n0) (K : BSet) (l : List UInt8) (hl : l.length ≤ 500000) : Meets Tryd.prog 8 [strV l] [keptHP n0 w0, setHP K] (RdQ (keptHP n0 w0) (preadR l)) := by
  refine Meets.post (pread_meets hL K l hl) ?_
  rintro x hs (⟨h0, v, K, A1, A2, A3, A4, A5, A6, A7, A8, A9, rfl, hT, rfl⟩ | ⟨h0, K, rfl, rfl⟩)
  · exact ⟨_, Ent.refl _, v, K, (preadR l).1, A1, A2, A3, A4, A5, A6, A7, A8, A9, fun _ => rfl, fun h => absurd h0 h, by rw [if_pos h0, h0], hT, rfl⟩
  · refine ⟨_, nil_sli _ 36 8, ⟨.slice none 0 0, rfl⟩, K, [], fun _ => 0, fun _ => 0, fun _ => 0, fun _ => 0, fun _ => 0, fun _ => 0, fun _ => 0, fun _ => 0, fun _ => 0, fun h => absurd h h0, fun _ => rfl, by rw [if_neg h0], fun j x hx => by simp at hx, rfl⟩
theorem go_pre : ∀ (ls : List (List UInt8)) (n : Int) (acc : List (Mv × Int)), acc <+: (goR ls n acc).1
  | [], _, acc => List.prefix_refl _
  | s :: r, n, acc => by
    rw [goR]
    split
    · exact go_pre r (n + 1) acc
    · split
      · exact List.prefix_refl _
      · split
        · exact List.prefix_refl _
        · exact (List.prefix_append _ _).trans (go_pre r (n + 1) _)
theorem go_len : ∀ (ls : List (List UInt8)) (n : Int) (acc : List (Mv × Int)), acc.length ≤ 1000 → (goR ls n acc).1.length ≤ 1000
  | [], _, acc, h => h
  | s :: r, n, acc, h => by
    rw [goR]
    split
    · exact go_len r (n + 1) acc h
    · split
      · exact h
      · split
        · exact h
        · exact go_len r (n + 1) _ (by rw [List.length_append, List.length_singleton]; omega)
theorem sameM_refl (m : Mv) : sameM m m = true := by unfold sameM; simp
theorem sameL_refl (xs : List Mv) : sameL xs xs = true := by
  unfold sameL upS
  rw [Bool.and_eq_true, List.all_eq_true]
  exact ⟨by simp, fun j _ => sameM_refl _⟩
theorem put_get {xs : List (Mv × Int)} {y : Mv × Int} {R : RR} {ls n} (h : goR ls n (xs ++ [y]) = R) : R.1[xs.length]? = some y ∧ xs.length < R.1.length := by
  obtain ⟨ys, e⟩ := go_pre ls n (xs ++ [y])
  rw [h] at e
  rw [← e]
  constructor
  · rw [List.append_assoc, List.getElem?_append_right (Nat.le_refl _)]
    simp
  · simp
theorem pureOk (C : Ctx) (hC : C.pure = pure) : PureOk Tryd.prog C := by
  intro f xs hp r ρ h hvc
  unfold pureRes at h
  rw [hC] at h
  unfold pure at h
  split at h
  · rename_i g hg
    split at hg
    · cases hg
      unfold pWorks at h
      split at h
      · cases h
        exact Sc.works_meets
      · cases h
    · cases hg
  · cases h
theorem TabI.mv {K : BSet} {xs : List (Mv × Int)} {A1 A2 A3 A4 A5 A6 A7 A8 A9 : Nat → Int} (h : TabI K xs A1 A2 A3 A4 A5 A6 A7 A8 A9) : MvT K (xs.map Prod.fst) A1 A2 A3 A4 A5 A6 A7 A8 := by
  intro j x hx
  rw [List.getElem?_map] at hx
  obtain ⟨y, hy, rfl⟩ := Option.map_eq_some_iff.1 hx
  obtain ⟨h1, h2, _⟩ := h j y hy
  exact ⟨h1, h2⟩
end Go.RX.Tr
