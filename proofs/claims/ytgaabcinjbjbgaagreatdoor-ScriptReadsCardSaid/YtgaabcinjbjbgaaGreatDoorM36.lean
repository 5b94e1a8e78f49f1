/- Reading of moves, the document's side: a line's words. · Reading of moves: fields between blanks, plainly. · Contracts of the library, laid at this program by the shelf (plain mode); kept are those that are used. · Reading of a text: lines without their remarks, plainly. -/
import Derived.Test.YtgaabcinjbjbgaaGreatDoorM32
import Derived.Lib.FieldsP
import Derived.Lib.TrimU
import Derived.Shelf.Strings.Builder1
import Derived.Shelf.Small.Strs
import Derived.Shelf.Strconv.Itoa0
import Derived.Shelf.Strconv.Itoa1
import Derived.Shelf.LaysM
import Derived.Shelf.Strconv.Itoa2
import Derived.Shelf.Strconv.Itoa3
import Derived.Shelf.Strings.Search1
import Derived.Shelf.Strings.Search2
import Derived.Shelf.Strings.Search3
import Derived.Shelf.Strings.Cut
import Derived.Shelf.Strings.Count
import Derived.Shelf.Strings.Split
import Derived.Test.YtgaabcinjbjbgaaGreatDoorProg
import Derived.Test.YtgaabcinjbjbgaaGreatDoorM35

namespace Go.RX.Su
open Go Go.RX Go.Proofs Go.RX.Ln
/-- The words of what is left, one of them begun. -/
def wordsG : List UInt8 → List UInt8 → List (List UInt8)
  | [], w => if w = [] then [] else [w]
  | c :: r, w => if c ≠ 32 ∧ c ≠ 35 then wordsG r (w ++ [c]) else (if w = [] then [] else [w]) ++ (if c = 35 then [] else wordsG r [])
def wordsR (l : List UInt8) : List (List UInt8) := wordsG l []
theorem fm1 (f : Nat → Value) (l : List Nat) : l.flatMap (fun i => [f i]) = l.map f := by
  induction l with
  | nil => rfl
  | cons a l ih => rw [List.flatMap_cons, ih]; rfl
theorem tab_strs (xs : List (List UInt8)) (A : Nat → Int) (h : ∀ j, j < xs.length → strD (at2F A j) = xs.getD j []) : tabL xs.length [colV 1 (fun j => .string ⟨(strD (at2F A j)).toArray⟩)] = xs.map strV := by
  have : tabL xs.length [colV 1 (fun j => .string ⟨(strD (at2F A j)).toArray⟩)] = (List.range xs.length).map fun i => .string ⟨(strD (at2F A i)).toArray⟩ := by
    unfold tabL
    simp only [List.flatMap_cons, List.flatMap_nil, List.append_nil, colV]
    rw [← fm1]
    simp
  rw [this]
  apply List.ext_getElem?
  intro i
  rw [List.getElem?_map, List.getElem?_map]
  by_cases hi : i < xs.length
  · rw [List.getElem?_range hi, List.getElem?_eq_getElem hi, Option.map_some, Option.map_some, h i hi, List.getD_eq_getElem?_getD, List.getElem?_eq_getElem hi]
    rfl
  · rw [List.getElem?_eq_none (by simpa using hi), List.getElem?_eq_none (by simpa using hi)]
    rfl
/-- The word that is begun at p, az far az q. -/
def curW (l : List UInt8) (p q : Int) : List UInt8 := if p < 0 then [] else (l.drop p.toNat).take (q - p).toNat
theorem cur_put (l : List UInt8) (p q : Int) (h0 : 0 ≤ p) (h1 : p ≤ q) (h2 : q < l.length) : curW l p (q + 1) = curW l p q ++ [l[q.toNat]'(by omega)] := by
  unfold curW
  rw [if_neg (by omega), if_neg (by omega), show (q + 1 - p).toNat = (q - p).toNat + 1 by omega, List.take_add_one]
  congr 1
  rw [List.getElem?_drop, show p.toNat + (q - p).toNat = q.toNat by omega, List.getElem?_eq_getElem (by omega)]
  rfl
theorem cur_ne (l : List UInt8) (p q : Int) (h0 : 0 ≤ p) (h1 : p < q) (h2 : q ≤ l.length) : curW l p q ≠ [] := by
  intro h
  have := congrArg List.length h
  unfold curW at this
  rw [if_neg (by omega), List.length_take, List.length_drop] at this
  simp only [List.length_nil] at this
  omega
theorem cur_row (l : List UInt8) (p q : Int) (h0 : 0 ≤ p) (h1 : p ≤ q) (h2 : q ≤ l.length) : strD (updF (shiftF (rowS l) p.toNat) 0 (q - p)) = curW l p q := by
  have := mid_rowS l p.toNat q.toNat (by omega) (by omega)
  unfold curW
  rw [if_neg (by omega), show (q - p).toNat = q.toNat - p.toNat by omega, ← this]
  congr 2
  omega
/-- What is still to come. -/
def restW (l : List UInt8) (p q : Int) : List (List UInt8) := if q ≤ l.length then wordsG (l.drop q.toNat) (curW l p q) else []
theorem rwords_meets (l : List UInt8) (hl : l.length ≤ 1000000) :
    Meets Tryz.prog 30 [strV l] [] (fun x hs => ∃ v : V1, x = v.v ∧ hs = [sliHP true 9 1 v.v (wordsR l).length ((wordsR l).map strV)]) := by
  have e0 : strV l = (SV.strE (.avar 0)).val { av := [rowS l] } := strV_row l
  rw [e0]
  have h := Meets.of_runE (C := cxA) (cnt := { a := 1 }) (ρ := { av := [rowS l] }) okT okFT okM Tryz.func30 (by constructor <;> rfl)
    (Post := fun x hs => ∃ v : V1, x = v.v ∧ ∃ r, hs = sliHP true 9 1 v.v (wordsR l).length ((wordsR l).map strV) :: r) (args := [.strE (.avar 0)]) (hp := []) run_rwords
    (vc_rwords Tryz.prog (fun x hs => ∃ v : V1, x = v.v ∧ ∃ r, hs = sliHP true 9 1 v.v (wordsR l).length ((wordsR l).map strV) :: r) (rowS l) (fun _ => LC.none)) ?_
  · refine Meets.post h ?_
    rintro x hs ⟨v, rfl, r, rfl⟩
    exact ⟨_, Ent.sub (List.Sublist.cons_cons _ (List.nil_sublist _)), v, rfl, rfl⟩
  unfold st_rwords
  rw [rowS0]
  refine ⟨fun e => ∃ ws : List (List UInt8), e.i.getD 2 0 = ws.length ∧ 0 ≤ e.i.getD 0 0 ∧ e.i.getD 0 0 ≤ l.length + 1 ∧ (ws.length : Int) ≤ e.i.getD 0 0 ∧ e.i.getD 1 0 < e.i.getD 0 0 ∧ (0 ≤ e.i.getD 1 0 → e.i.getD 0 0 ≤ l.length) ∧
      (∀ j, j < ws.length → strD (at2F (e.a.getD 0 fun _ => 0) j) = ws.getD j []) ∧ ws ++ restW l (e.i.getD 1 0) (e.i.getD 0 0) = wordsR l,
    fun e => ((l.length : Int) + 1 - e.i.getD 0 0).toNat, ⟨_, 0, -1, 0, _, rfl, rfl, rfl, rfl, rfl, rfl, [], rfl, by simp, by simp; omega, by simp, by simp, by simp, by simp, ?_⟩, ?_⟩
  · show [] ++ restW l (-1) 0 = wordsR l
    unfold restW wordsR
    rw [if_pos (by omega)]
    rfl
  rintro v q p m A ⟨ws, hm, hq0, hq1, hmq, hpq, hpl, hA, hw⟩
  simp only [List.getD_cons_zero, List.getD_cons_succ] at hm hq0 hq1 hmq hpq hpl hA hw
  subst hm
  -- the words so far, and one more
  have hput : 0 ≤ p → ∀ j, j < (ws ++ [curW l p q]).length → strD (at2F (put2F A (Int.toNat ws.length) (updF (shiftF (rowS l) (Int.toNat p)) 0 (q - p))) j) = (ws ++ [curW l p q]).getD j [] := by
    intro hp j hj
    rw [at2_put2, Int.toNat_natCast]
    by_cases hjw : j = ws.length
    · rw [if_pos hjw, cur_row l p q hp (by omega) (hpl hp), hjw]
      simp [List.getD_eq_getElem?_getD]
    · have hj2 : j < ws.length := by simp at hj; omega
      rw [if_neg hjw, hA j hj2, List.getD_eq_getElem?_getD, List.getD_eq_getElem?_getD, List.getElem?_append_left hj2]
  refine ⟨by omega, fun _ => ⟨fun hq => ?_, fun hq => ?_⟩⟩
  · unfold restW at hw
    rw [if_pos hq] at hw
    refine ⟨by omega, fun _ => ⟨by omega, fun _ => ⟨by omega, fun _ => ⟨by omega, fun _ => ⟨fun hc => ?_, fun hc => ?_⟩⟩⟩⟩⟩
    · have hql : q.toNat < l.length := by omega
      rw [sby_row l _ hql] at hc
      rw [List.drop_eq_getElem_cons hql, wordsG] at hw
      have hcc : l[q.toNat]'hql ≠ 32 ∧ l[q.toNat]'hql ≠ 35 := ⟨fun e => hc.1.2 (by rw [e]; rfl), fun e => hc.2 (by rw [e]; rfl)⟩
      rw [if_pos hcc] at hw
      refine ⟨fun hp => ⟨by omega, fun _ => ⟨by omega, fun _ => ?_⟩⟩, fun hp => ⟨by omega, fun _ => ⟨by omega, fun _ => ?_⟩⟩⟩
      · refine ⟨v, q + 1, q, ws.length, A, rfl, rfl, rfl, rfl, rfl, rfl, ⟨ws, rfl, ?_, ?_, ?_, ?_, ?_, hA, ?_⟩, ?_⟩
        all_goals simp only [List.getD_cons_zero, List.getD_cons_succ]
        · omega
        · omega
        · omega
        · omega
        · omega
        · rw [← hw]
          congr 1
          unfold restW
          rw [if_pos (by omega), show (q + 1).toNat = q.toNat + 1 by omega, cur_put l q q (by omega) (by omega) (by omega)]
          have e1 : curW l q q = [] := by unfold curW; rw [if_neg (by omega), show (q - q).toNat = 0 by omega]; rfl
          have e2 : curW l p q = [] := by unfold curW; rw [if_pos hp]
          rw [e1, e2]
        · omega
      · refine ⟨v, q + 1, p, ws.length, A, rfl, rfl, rfl, rfl, rfl, rfl, ⟨ws, rfl, ?_, ?_, ?_, ?_, ?_, hA, ?_⟩, ?_⟩
        all_goals simp only [List.getD_cons_zero, List.getD_cons_succ]
        · omega
        · omega
        · omega
        · omega
        · omega
        · rw [← hw]
          congr 1
          unfold restW
          rw [if_pos (by omega), show (q + 1).toNat = q.toNat + 1 by omega, cur_put l p q (by omega) (by omega) (by omega)]
        · omega
    · -- a word's end
      have hend : wordsG (l.drop q.toNat) (curW l p q) = (if curW l p q = [] then [] else [curW l p q]) ++ (if h : q < l.length then (if l[q.toNat]'(by omega) = 35 then [] else restW l (-1) (q + 1)) else []) := by
        by_cases hql : q < l.length
        · rw [sby_row l _ (by omega)] at hc
          rw [dif_pos hql, List.drop_eq_getElem_cons (by omega), wordsG, if_neg]
          · have e3 : restW l (-1) (q + 1) = wordsG (l.drop (q.toNat + 1)) [] := by
              unfold restW
              rw [if_pos (by omega), show (q + 1).toNat = q.toNat + 1 by omega]
              rfl
            rw [e3]
          · rintro ⟨h1, h2⟩
            exact hc ⟨⟨hql, fun e => h1 (UInt8.toNat_inj.1 (by have e2 : (32 : UInt8).toNat = 32 := rfl; omega))⟩, fun e => h2 (UInt8.toNat_inj.1 (by have e2 : (35 : UInt8).toNat = 35 := rfl; omega))⟩
        · rw [dif_neg hql, List.drop_eq_nil_of_le (by omega), wordsG, List.append_nil]
      rw [hend] at hw
      refine ⟨fun hp => ⟨by omega, fun _ => fun b => ⟨by omega, fun _ => ⟨by omega, fun _ => fun v2 => ⟨by omega, fun _ => ⟨by omega, fun _ => ⟨fun h35 => ?_, fun h35 => ⟨by omega, fun _ => ⟨by omega, fun _ => ?_⟩⟩⟩⟩⟩⟩⟩⟩, fun hp => ⟨by omega, fun _ => ⟨by omega, fun _ => ⟨fun h35 => ?_, fun h35 => ⟨by omega, fun _ => ⟨by omega, fun _ => ?_⟩⟩⟩⟩⟩⟩
      · have hql : q.toNat < l.length := by omega
        rw [sby_row l _ hql] at h35
        have h5 : l[q.toNat]'hql = 35 := UInt8.toNat_inj.1 (by have e2 : (35 : UInt8).toNat = 35 := rfl; omega)
        rw [if_neg (cur_ne l p q hp hpq (by omega)), dif_pos h35.1, if_pos h5, List.append_nil] at hw
        refine ⟨v2, rfl, [rowHP b true [.string ⟨(strD (updF (shiftF (rowS l) (Int.toNat p)) 0 (q - p))).toArray⟩]], ?_⟩
        rw [← hw, show ((ws.length : Int) + 1).toNat = (ws ++ [curW l p q]).length by simp, tab_strs _ _ (hput hp)]
      · refine ⟨v2, q + 1, -1, ws.length + 1, _, rfl, rfl, rfl, rfl, rfl, rfl, ⟨ws ++ [curW l p q], ?_, ?_, ?_, ?_, ?_, ?_, hput hp, ?_⟩, ?_⟩
        all_goals simp only [List.getD_cons_zero, List.getD_cons_succ]
        · simp
        · omega
        · omega
        · simp; omega
        · omega
        · omega
        · rw [← hw, if_neg (cur_ne l p q hp hpq (hpl hp)), List.append_assoc]
          congr 2
          by_cases hql : q < l.length
          · rw [dif_pos hql, if_neg]
            intro e
            rw [sby_row l _ (by omega), e] at h35
            exact h35 ⟨hql, rfl⟩
          · rw [dif_neg hql]
            unfold restW
            rw [if_neg (by omega)]
        · omega
      · have hql : q.toNat < l.length := by omega
        rw [sby_row l _ hql] at h35
        have h5 : l[q.toNat]'hql = 35 := UInt8.toNat_inj.1 (by have e2 : (35 : UInt8).toNat = 35 := rfl; omega)
        have e2 : curW l p q = [] := by unfold curW; rw [if_pos (by omega)]
        rw [if_pos e2, dif_pos h35.1, if_pos h5, List.append_nil, List.append_nil] at hw
        refine ⟨v, rfl, [], ?_⟩
        rw [← hw, Int.toNat_natCast, tab_strs _ _ hA]
      · have e2 : curW l p q = [] := by unfold curW; rw [if_pos (by omega)]
        refine ⟨v, q + 1, -1, ws.length, A, rfl, rfl, rfl, rfl, rfl, rfl, ⟨ws, rfl, ?_, ?_, ?_, ?_, ?_, hA, ?_⟩, ?_⟩
        all_goals simp only [List.getD_cons_zero, List.getD_cons_succ]
        · omega
        · omega
        · omega
        · omega
        · omega
        · rw [← hw, if_pos e2, List.nil_append]
          congr 1
          by_cases hql : q < l.length
          · rw [dif_pos hql, if_neg]
            intro e
            rw [sby_row l _ (by omega), e] at h35
            exact h35 ⟨hql, rfl⟩
          · rw [dif_neg hql]
            unfold restW
            rw [if_neg (by omega)]
        · omega
  · unfold restW at hw
    rw [if_neg hq, List.append_nil] at hw
    refine ⟨v, rfl, [], ?_⟩
    rw [← hw, Int.toNat_natCast, tab_strs _ _ hA]
end Go.RX.Su

namespace Go.RX.Su
open Go
theorem dec_ascii (s : ByteArray) (i : Nat) (h : (s.get! i).toNat < 128) : Utf8.decode s i = ((s.get! i).toNat, 1) := by
  unfold Utf8.decode
  simp only [Nat.add_zero]
  rw [if_pos h]
theorem dec_wide (s : ByteArray) (i : Nat) (h : ¬ (s.get! i).toNat < 128) : 128 ≤ (Utf8.decode s i).1 ∧ 1 ≤ (Utf8.decode s i).2 ∧ ∀ k, 1 ≤ k → k < (Utf8.decode s i).2 → i + k < s.size ∧ 128 ≤ (s.get! (i + k)).toNat := by
  have one : ∀ k : Nat, 1 ≤ k → k < 1 → i + k < s.size ∧ 128 ≤ (s.get! (i + k)).toNat := fun k h1 h2 => by omega
  unfold Utf8.decode
  simp only [Nat.add_zero]
  rw [if_neg h]
  split
  · rename_i hc
    simp only [Bool.and_eq_true, beq_iff_eq, decide_eq_true_eq] at hc
    split
    · refine ⟨by omega, by omega, fun k h1 h2 => ?_⟩
      obtain rfl : k = 1 := by simp at h2; omega
      omega
    · exact ⟨by decide, by decide, one⟩
  · split
    · rename_i hc
      simp only [Bool.and_eq_true, beq_iff_eq, decide_eq_true_eq] at hc
      split
      · rename_i hv
        simp only [Bool.and_eq_true, decide_eq_true_eq] at hv
        refine ⟨by omega, by omega, fun k h1 h2 => ?_⟩
        have : k = 1 ∨ k = 2 := by simp at h2; omega
        rcases this with rfl | rfl <;> omega
      · exact ⟨by decide, by decide, one⟩
    · split
      · rename_i hc
        simp only [Bool.and_eq_true, beq_iff_eq, decide_eq_true_eq] at hc
        split
        · rename_i hv
          simp only [Bool.and_eq_true, decide_eq_true_eq] at hv
          refine ⟨by omega, by omega, fun k h1 h2 => ?_⟩
          have : k = 1 ∨ k = 2 ∨ k = 3 := by simp at h2; omega
          rcases this with rfl | rfl | rfl <;> omega
        · exact ⟨by decide, by decide, one⟩
      · exact ⟨by decide, by decide, one⟩
/-- Fields between blanks: the word that is begun, and what is left. -/
def fieldsG : List UInt8 → List UInt8 → List (List UInt8)
  | [], w => if w = [] then [] else [w]
  | c :: r, w => if c ≠ 32 then fieldsG r (w ++ [c]) else (if w = [] then [] else [w]) ++ fieldsG r []
theorem fieldsG_app : ∀ (x r w : List UInt8), (∀ c ∈ x, c ≠ 32) → fieldsG (x ++ r) w = fieldsG r (w ++ x)
  | [], r, w, _ => by simp
  | c :: x, r, w, h => by
    rw [List.cons_append, fieldsG, if_pos (h c List.mem_cons_self), fieldsG_app x r _ fun y hy => h y (List.mem_cons_of_mem _ hy)]
    simp
theorem words_fields : ∀ (l w : List UInt8), wordsG l w = fieldsG (l.takeWhile fun c => c ≠ 35) w
  | [], w => rfl
  | c :: r, w => by
    rw [wordsG, List.takeWhile_cons]
    by_cases h35 : c = 35
    · subst h35
      simp [fieldsG]
    · by_cases h32 : c = 32
      · subst h32
        have e := words_fields r []
        simp only [ne_eq, decide_not] at e
        simp [fieldsG, e]
      · have e := words_fields r (w ++ [c])
        simp only [ne_eq, decide_not] at e
        simp [h35, h32, fieldsG, e]
end Go.RX.Su

namespace Go.Proofs
open Go.Shelf
def Tryz.lays143_ren : Go.Shelf.Ren := ⟨fun | 143 => 108 | 219 => 109 | 217 => 89 | 225 => 138 | 224 => 139 | 267 => 140 | 266 => 112 | 314 => 168 | n => n, fun | 9 => 9 | 3 => 3 | 4 => 4 | 5 => 5 | 46 => 116 | 146 => 255 | 51 => 241 | n => n, fun | 1 => 0 | n => n⟩
theorem Tryz.lays143 : Go.Proofs.Lays.n143 Tryz.prog Tryz.lays143_ren := {
  mixed := by kernel_rfl
  f143 := Tryz.func108.trans (congrArg some (by kernel_rfl))
  f217 := Tryz.func89.trans (congrArg some (by kernel_rfl))
  f219 := Tryz.func109.trans (congrArg some (by kernel_rfl))
  f224 := Tryz.func139.trans (congrArg some (by kernel_rfl))
  f225 := Tryz.func138.trans (congrArg some (by kernel_rfl))
  f266 := Tryz.func112.trans (congrArg some (by kernel_rfl))
  f267 := Tryz.func140.trans (congrArg some (by kernel_rfl))
  f314 := Tryz.func168.trans (congrArg some (by kernel_rfl))
  t3 := Tryz.underlying3
  a3 := Tryz.isAgg3
  z3 := Tryz.sizeOf3
  v3 := Tryz.zeroValue3
  t4 := Tryz.underlying4
  a4 := Tryz.isAgg4
  z4 := Tryz.sizeOf4
  v4 := Tryz.zeroValue4
  t5 := Tryz.underlying5
  a5 := Tryz.isAgg5
  z5 := Tryz.sizeOf5
  v5 := Tryz.zeroValue5
  t9 := Tryz.underlying9
  a9 := Tryz.isAgg9
  z9 := Tryz.sizeOf9
  v9 := Tryz.zeroValue9
  t46 := Tryz.underlying116
  a46 := Tryz.isAgg116
  z46 := Tryz.sizeOf116
  v46 := Tryz.zeroValue116
  t51 := Tryz.underlying241
  a51 := Tryz.isAgg241
  z51 := Tryz.sizeOf241
  v51 := Tryz.zeroValue241
  t146 := Tryz.underlying255
  a146 := Tryz.isAgg255
  z146 := Tryz.sizeOf255
  v146 := Tryz.zeroValue255
  g1 := by kernel_rfl }
open Go.RowKit Go.Lib in
/-- strings.Index: "Index returns the index of the first instance of substr in s, or -1 if substr is not present in s.": AT A substr OF ONE BYTE c: IT RETURNS 'Lib.indexByte s c'; the world is az it was. (LAID: no walk: one application.) -/
theorem Tryz.strings_Index_one (s : ByteArray) (c : UInt8) (w : World) :
    Calls Tryz.prog 108 #[.string s, .string ⟨#[c]⟩] w fun e w' => e = .returned (.int .i64 (Lib.indexByte s.data.toList c)) ∧ w' = w := Any.strings_Index_one Tryz.lays143 s c w
end Go.Proofs

namespace Go.RX.Sw
open Go Go.RX Go.Proofs Go.RX.Su Go.RX.St
theorem cutR_while (c : UInt8) : ∀ l : List UInt8, (cutV c l).1 = l.takeWhile fun b => b ≠ c
  | [] => rfl
  | b :: r => by
    have ih := cutR_while c r
    unfold cutV at ih ⊢
    rw [cutR, List.takeWhile_cons]
    by_cases h : b = c
    · simp [h]
    · rw [if_neg h]
      rcases hr : cutR c r with _ | ⟨x, y⟩
      · rw [hr] at ih
        simp only [ne_eq, decide_not] at ih
        simp [h, ← ih]
      · rw [hr] at ih
        simp only [ne_eq, decide_not] at ih
        simp [h, ← ih]
/-- A line's words: the fields of what lies ahead of its remark. -/
theorem line_words (l : List UInt8) : fieldsG (Lib.cut l [35]).1 [] = wordsR l := by
  rw [cut_R, cutR_while, wordsR, words_fields]
theorem index_meets (s : List UInt8) (c : UInt8) : Meets Tryz.prog 108 [.string ⟨s.toArray⟩, .string ⟨#[c]⟩] [] fun x hs => x = .int .i64 (Lib.indexByte s c) ∧ hs = [] :=
  Au.meets_pure fun w => Go.Proofs.Tryz.strings_Index_one ⟨s.toArray⟩ c w
end Go.RX.Sw
