/- Reading of a text, the program's side: moves, or the error's line. · What the executor is told of the comparison of two rows of moves. · The comparison of two rows of moves: what the function leaves to be shown; printed by a program of ours (wip/tools). · The comparison of two moves: what the function leaves to be shown; printed by a program of ours (wip/tools). · A reflective symbolic executor, part 33: a call that only looks, over whatever memory bears its views. · The comparison of two moves, over the memory of their bytes. -/
import Derived.Test.YtgaabcinjbjbgaaGreatDoorSwF
import Derived.Test.YtgaabcinjbjbgaaGreatDoorM36
import Derived.Test.YtgaabcinjbjbgaaGreatDoorStO
import Derived.Test.YtgaabcinjbjbgaaGreatDoorM45
import Derived.Test.YtgaabcinjbjbgaaGreatDoorM27
import Derived.Test.YtgaabcinjbjbgaaGreatDoorM28

namespace Go.RX.Sw
open Go Go.RX Go.Proofs Go.RX.Ln Go.RX.Su Go.RX.Sv Go.RX.St
variable {n0 : Nat} {w0 : World}
theorem strD_drop (A : Nat → Int) (p : Int) (h0 : 0 ≤ p) (h1 : p ≤ A 0) : strD (updF (shiftF A p.toNat) 0 (A 0 - p)) = (strD A).drop p.toNat := by
  apply List.ext_getElem?
  intro j
  rw [List.getElem?_drop]
  unfold strD
  rw [List.getElem?_map, List.getElem?_map]
  simp only [updF, if_true, shiftF, Nat.succ_ne_zero, if_false]
  by_cases hj : j < (A 0 - p).toNat
  · rw [List.getElem?_range hj, List.getElem?_range (by omega)]
    simp [Nat.add_assoc]
  · rw [List.getElem?_eq_none (by simp; omega), List.getElem?_eq_none (by simp; omega)]
    rfl
theorem strD_take (A : Nat → Int) (p : Int) (h1 : p ≤ A 0) : strD (updF A 0 p) = (strD A).take p.toNat := by
  apply List.ext_getElem?
  intro j
  rw [List.getElem?_take]
  unfold strD
  rw [List.getElem?_map, List.getElem?_map]
  simp only [updF, if_true, Nat.succ_ne_zero, if_false]
  by_cases hj : j < p.toNat
  · rw [List.getElem?_range hj, List.getElem?_range (by omega), if_pos hj]
  · rw [List.getElem?_eq_none (by simpa using hj), if_neg hj]
    rfl
/-- A line's words: cut at a remark, then at blanks. -/
theorem words_step (hL : Laid0 w0 n0) (S : List UInt8) (hS : S.length ≤ 1000000) (Φ : V1 → Int → (Nat → Int) → Prop) (h : ∀ v : V1, Φ v (wordsR S).length (tabO (wordsR S))) :
    ∃ post, Meets Tryz.prog 56 [.string ⟨S.toArray⟩, .string ⟨#[35]⟩] [keptHP n0 w0] post ∧
      ∀ x hs, post x hs → ∃ A10 : (Nat → Int), ∃ A11 : (Nat → Int), ∃ q0 : Bool, x = .tuple #[.string ⟨(strD A10).toArray⟩, .string ⟨(strD A11).toArray⟩, .bool q0] ∧ hs = [keptHP n0 w0] ∧
      ∃ post, Meets Tryz.prog 62 [.string ⟨(strD A10).toArray⟩, .func (.func 63) #[] #[]] [keptHP n0 w0] post ∧
      ∀ x hs, post x hs → ∃ v2 : V1, ∃ x4 : Int, ∃ A12 : (Nat → Int), x = v2.v ∧ hs = [keptHP n0 w0, sliHP true 9 1 v2.v (Int.toNat x4) (tabL (Int.toNat x4) [colV 1 (fun j => .string ⟨(strD (at2F A12 j)).toArray⟩)])] ∧
      Need (0 ≤ x4) (Φ v2 x4 A12) := by
  refine ⟨_, cut_meets hL S [35] (by omega), ?_⟩
  rintro x hs ⟨rfl, rfl⟩
  refine ⟨rowS (Lib.cut S [35]).1, rowS (Lib.cut S [35]).2.1, (Lib.cut S [35]).2.2, ?_, rfl, ?_⟩
  · rw [← strV_row, ← strV_row]
  rw [strD_rowS]
  have hlen : (Lib.cut S [35]).1.length ≤ 1000000 := by
    rw [cut_R, cutR_while]
    have := (List.takeWhile_prefix (fun b : UInt8 => decide (b ≠ 35)) (l := S)).length_le
    omega
  refine ⟨_, fields_meets _ hlen, ?_⟩
  rw [line_words]
  rintro x hs ⟨v, rfl, rfl⟩
  refine ⟨v, (wordsR S).length, tabO (wordsR S), rfl, ?_, by omega, fun _ => h v⟩
  rw [Int.toNat_natCast, tab_strs _ _ fun j _ => tabO_at (wordsR S) j]
theorem words_len (s : List UInt8) (hs : s.length ≤ 500000) : ∀ y ∈ wordsR s, y.length ≤ 1000000 := fun y hy => by
  have := wordsG_len s [] y hy
  simp at this
  omega
/-- The moves of a text, or its error's line and the error. -/
def PReadQ (L : HP) (r : RR) (x : Value) (hs : List HP) : Prop :=
  (r.2.2 = 0 ∧ ∃ (v : V1) (K : BSet) (A1 A2 A3 A4 A5 A6 A7 A8 A9 : Nat → Int), x = .tuple #[v.v, .int .i64 0, .int .i64 0] ∧ TabI K r.1 A1 A2 A3 A4 A5 A6 A7 A8 A9 ∧
    hs = [L, setHP K, sliHP true 39 8 v.v r.1.length (tabM r.1.length A1 A2 A3 A4 A5 A6 A7 A8)]) ∨
  (r.2.2 ≠ 0 ∧ ∃ K : BSet, x = .tuple #[.slice none 0 0, .int .i64 r.2.1, .int .i64 r.2.2] ∧ hs = [L, setHP K])
def PRaw (L : HP) (r : RR) (x : Value) (hs : List HP) : Prop :=
  (r.2.2 = 0 ∧ ∃ (v : V1) (K : BSet) (A1 A2 A3 A4 A5 A6 A7 A8 A9 : Nat → Int), x = .tuple #[v.v, .int .i64 0, .int .i64 0] ∧ TabI K r.1 A1 A2 A3 A4 A5 A6 A7 A8 A9 ∧
    ∃ mid rest, hs = [L, setHP K] ++ mid ++ sliHP true 39 8 v.v r.1.length (tabM r.1.length A1 A2 A3 A4 A5 A6 A7 A8) :: rest) ∨
  (r.2.2 ≠ 0 ∧ ∃ K : BSet, x = .tuple #[.slice none 0 0, .int .i64 r.2.1, .int .i64 r.2.2] ∧ ∃ rest, hs = [L, setHP K] ++ rest)
theorem index_lt (c : UInt8) : ∀ (l : List UInt8), 0 ≤ Lib.index l [c] → Lib.index l [c] < l.length
  | [], h => by rw [index_nil] at h; omega
  | b :: r, h => by
    rw [index_cons] at h ⊢
    have ih := index_lt c r
    have hg := Lib.index_ge r [c]
    rw [List.length_cons]
    split
    · omega
    · rename_i hb
      rw [if_neg hb] at h
      split
      · omega
      · rename_i hr
        rw [if_neg hr] at h
        have := ih (by omega)
        omega
theorem splitL_end (l : List UInt8) (x : Int) (hx : x = Lib.indexByte l 10) (h : x < 0) : splitL 10 l = [l] := by
  refine splitL_miss 10 l ?_
  have h1 := Lib.index_one l 10
  have h2 := Lib.index_ge l [10]
  omega
theorem splitL_at (l : List UInt8) (x : Int) (hx : x = Lib.indexByte l 10) (h : ¬ x < 0) : x < l.length ∧ splitL 10 l = l.take x.toNat :: splitL 10 (l.drop (x + 1).toNat) := by
  have h1 := Lib.index_one l 10
  have h2 := splitL_hit 10 l x.toNat (by omega)
  refine ⟨by have := index_lt 10 l (by omega); omega, ?_⟩
  rw [h2, show (x + 1).toNat = x.toNat + 1 by omega]
/-- What the program answers: texts that are too long are an error. -/
def preadR (l : List UInt8) : RR := if 262144 < l.length then ([], 0, 3) else readR l
theorem pread_meets (hL : Laid0 w0 n0) (K : BSet) (l : List UInt8) (hl : l.length ≤ 500000) : Meets Tryz.prog 8 [strV l] [keptHP n0 w0, setHP K] (PReadQ (keptHP n0 w0) (preadR l)) := by
  have e0 : strV l = (SV.strE (.avar 0)).val { av := [rowS l], pv := [keptHP n0 w0, setHP K] } := strV_row l
  rw [e0]
  have h := Meets.of_runE (C := cx) (cnt := { a := 1, p := 2 }) (ρ := { av := [rowS l], pv := [keptHP n0 w0, setHP K] }) okT okFT okM Tryz.func8 (by constructor <;> rfl)
    (Post := PRaw (keptHP n0 w0) (preadR l)) (args := [.strE (.avar 0)]) (hp := [.abs 0, .abs 1]) run_pread
    (vc_pread Tryz.prog (PRaw (keptHP n0 w0) (preadR l)) (rowS l) (keptHP n0 w0) (setHP K) (fun _ => LC.none)) ?_
  · refine Meets.post h ?_
    rintro x hs (⟨h0, v, K, A1, A2, A3, A4, A5, A6, A7, A8, A9, rfl, hT, mid, rest, rfl⟩ | ⟨h0, K, rfl, rest, rfl⟩)
    · refine ⟨[keptHP n0 w0, setHP K, sliHP true 39 8 v.v (preadR l).1.length (tabM (preadR l).1.length A1 A2 A3 A4 A5 A6 A7 A8)], Ent.sub ?_, .inl ⟨h0, v, K, A1, A2, A3, A4, A5, A6, A7, A8, A9, rfl, hT, rfl⟩⟩
      simp
    · exact ⟨[keptHP n0 w0, setHP K], Ent.sub (List.sublist_append_left _ _), .inr ⟨h0, K, rfl, rfl⟩⟩
  unfold st_pread
  rw [rowS0]
  intro b0 b1 b2 b3
  refine ⟨by omega, fun _ => ⟨fun h => ?_, fun hbig => ?_⟩⟩
  · have : preadR l = ([], 0, 3) := if_pos (by omega)
    rw [this]
    exact .inr ⟨by decide, K, rfl, _, rfl⟩
  rw [show preadR l = readR l from if_neg (by omega)]
  intro b4 b5 b6 b7 b8 _ l10 r9
  refine ⟨fun e => ∃ (K : BSet) (xs : List (Mv × Int)) (A9 : Nat → Int), e.p.getD 0 HP.emp = setHP K ∧ e.i.getD 1 0 = xs.length ∧ e.i.getD 2 0 = xs.length ∧ xs.length ≤ 1000 ∧ 0 ≤ e.i.getD 0 0 ∧ 0 ≤ (e.a.getD 8 fun _ => 0) 0 ∧ e.i.getD 0 0 + (e.a.getD 8 fun _ => 0) 0 ≤ l.length ∧
      TabI K xs (e.a.getD 0 fun _ => 0) (e.a.getD 1 fun _ => 0) (e.a.getD 2 fun _ => 0) (e.a.getD 3 fun _ => 0) (e.a.getD 4 fun _ => 0) (e.a.getD 5 fun _ => 0) (e.a.getD 6 fun _ => 0) (e.a.getD 7 fun _ => 0) A9 ∧
      goR (splitL 10 (strD (e.a.getD 8 fun _ => 0))) (e.i.getD 0 0 + 1) xs = readR l, fun e => ((e.a.getD 8 fun _ => 0) 0).toNat, ?_, ?_⟩
  · refine ⟨⟨.slice none 0 0, rfl⟩, 0, 0, 0, fun _ => 0, fun _ => 0, fun _ => 0, fun _ => 0, fun _ => 0, fun _ => 0, fun _ => 0, fun _ => 0, rowS l, setHP K, rfl, rfl, rfl, rfl, rfl, rfl, rfl, fun _ _ => rfl, fun _ _ => rfl, fun _ _ => rfl, fun _ _ => rfl, fun _ _ => rfl, fun _ _ => rfl, fun _ _ => rfl, fun _ _ => rfl, ?_⟩
    refine ⟨K, [], fun _ => 0, rfl, rfl, rfl, by simp, by simp, ?_, ?_, fun j x hx => by simp at hx, ?_⟩
    all_goals simp only [List.getD_cons_zero, List.getD_cons_succ]
    · rw [rowS0]; omega
    · rw [rowS0]; omega
    · rw [strD_rowS]; rfl
  rintro v x0 x1 x2 A1 A2 A3 A4 A5 A6 A7 A8 A p ⟨K, xs, A9, hp, hm, hm2, hx, hn0, hA0, hn1, hT, hgo⟩
  simp only [List.getD_cons_zero, List.getD_cons_succ] at hp hm hm2 hn0 hA0 hn1 hT hgo
  subst hp hm hm2
  have hAl := strD_length A
  refine ⟨_, index_meets (strD A) 10, ?_⟩
  rintro x hs ⟨rfl, rfl⟩
  refine ⟨Lib.indexByte (strD A) 10, rfl, rfl, ?_⟩
  generalize hx3 : Lib.indexByte (strD A) 10 = x3
  refine ⟨fun h3 => ?_, fun h3 => ?_⟩
  · have hsp := splitL_end _ _ hx3.symm h3
    rw [hsp] at hgo
    simp only [goR] at hgo
    refine ⟨by omega, fun _ => ⟨by omega, fun _ => ?_⟩⟩
    have hsl : (strD A).length ≤ 500000 := by omega
    generalize strD A = s at hgo hsl ⊢
    refine words_step hL s (by omega) _ fun v2 => ?_
    simp only [Int.toNat_natCast]
    rw [tab_strs _ _ fun j _ => tabO_at (wordsR s) j]
    refine ⟨fun hw => ?_, fun hw => ?_⟩
    · rw [if_pos (List.eq_nil_of_length_eq_zero (by omega))] at hgo
      refine .inl ⟨by rw [← hgo], v, K, A1, A2, A3, A4, A5, A6, A7, A8, A9, rfl, ?_⟩
      rw [← hgo]
      exact ⟨hT, [_, _, _, _, _, _, _, _, _, _, _], _, rfl⟩
    · have hne : wordsR s ≠ [] := fun e => hw (by rw [e]; rfl)
      rw [if_neg hne] at hgo
      refine ⟨_, pmove_meets hL K v2 (wordsR s) (List.length_pos_iff.2 hne) (words_len s hsl), ?_⟩
      intro x hs hq
      rcases ho : oneR (wordsR s) with z | mv
      · rw [ho] at hq hgo
        obtain ⟨rfl, rfl⟩ := hq
        have hz := oneG_err formsL _ z ho
        refine ⟨0, 0, 0, 0, 0, 0, 0, 0, z, setHP K, rfl, rfl, fun b11 => ⟨fun h => by omega, fun _ => ⟨fun _ => ?_, fun h0 => by omega⟩⟩⟩
        refine .inr ⟨by rw [← hgo]; show z ≠ 0; omega, K, by rw [← hgo], _, rfl⟩
      · rw [ho] at hq hgo
        obtain ⟨e, K', rfl, rfl, hG⟩ := hq
        obtain ⟨hH, hKK⟩ := Grow.has hG
        simp only at hgo
        refine ⟨mv.k, mv.d1, mv.d2, mv.p1, mv.p2, mv.n, mv.c, e, 0, setHP K', rfl, rfl, fun b11 => ⟨fun h => ?_, fun h => ⟨fun h1 => absurd rfl h1, fun _ => ?_⟩⟩⟩
        · rw [if_pos (by omega)] at hgo
          exact .inr ⟨by rw [← hgo]; exact (by decide : (3 : Int) ≠ 0), K', by rw [← hgo], _, rfl⟩
        · rw [if_neg (by omega)] at hgo
          have hP := hT.put hKK (x := (mv, x0 + 1)) (a1 := mv.k) (a2 := mv.d1) (a3 := mv.d2) (a4 := mv.p1) (a5 := mv.p2) (a6 := mv.n) (a7 := mv.c) (a8 := e) (a9 := x0 + 1) ⟨⟨rfl, rfl, rfl, rfl, rfl, rfl, rfl⟩, hH, rfl⟩
          refine ⟨by omega, fun _ => ⟨by omega, fun _ b12 b13 => ⟨by omega, fun _ => ⟨by omega, fun _ v3 => ?_⟩⟩⟩⟩
          refine .inl ⟨by rw [← hgo], v3, K', updF A1 xs.length mv.k, updF A2 xs.length mv.d1, updF A3 xs.length mv.d2, updF A4 xs.length mv.p1, updF A5 xs.length mv.p2, updF A6 xs.length mv.n, updF A7 xs.length mv.c, updF A8 xs.length e, updF A9 xs.length (x0 + 1), rfl, ?_⟩
          rw [← hgo, show ((xs.length : Int) + 1).toNat = (xs ++ [(mv, x0 + 1)]).length by simp]
          exact ⟨hP, [_, _, _, _, _, _, _, _, _, _, _], _, rfl⟩
  · obtain ⟨hlt, hsp⟩ := splitL_at _ _ hx3.symm h3
    rw [hsp, ← strD_take A x3 (by omega), ← strD_drop A (x3 + 1) (by omega) (by omega)] at hgo
    simp only [goR] at hgo
    have hsl : (strD (updF A 0 x3)).length ≤ 500000 := by rw [strD_take A x3 (by omega), List.length_take]; omega
    refine ⟨by omega, fun _ => ⟨by omega, fun _ => ⟨by omega, fun _ => ⟨by omega, fun _ => ⟨by omega, fun _ => ⟨by omega, fun _ => ?_⟩⟩⟩⟩⟩⟩
    generalize strD (updF A 0 x3) = s at hgo hsl ⊢
    refine words_step hL s (by omega) _ fun v2 => ?_
    simp only [Int.toNat_natCast]
    rw [tab_strs _ _ fun j _ => tabO_at (wordsR s) j]
    refine ⟨fun hw => ?_, fun hw => ?_⟩
    · rw [if_pos (List.eq_nil_of_length_eq_zero (by omega))] at hgo
      refine ⟨by omega, fun _ => ⟨by omega, fun _ => ⟨by omega, fun _ => ⟨by omega, fun _ => ?_⟩⟩⟩⟩
      refine ⟨v, x0 + 1, xs.length, xs.length, A1, A2, A3, A4, A5, A6, A7, A8, _, setHP K, rfl, rfl, rfl, rfl, rfl, rfl, rfl, fun _ _ => rfl, fun _ _ => rfl, fun _ _ => rfl, fun _ _ => rfl, fun _ _ => rfl, fun _ _ => rfl, fun _ _ => rfl, fun _ _ => rfl, ⟨K, xs, A9, rfl, rfl, rfl, hx, ?_, ?_, ?_, hT, hgo⟩, ?_⟩
      all_goals simp only [List.getD_cons_zero, List.getD_cons_succ, updF, if_true]
      all_goals omega
    · have hne : wordsR s ≠ [] := fun e => hw (by rw [e]; rfl)
      rw [if_neg hne] at hgo
      refine ⟨_, pmove_meets hL K v2 (wordsR s) (List.length_pos_iff.2 hne) (words_len s hsl), ?_⟩
      intro x hs hq
      rcases ho : oneR (wordsR s) with z | mv
      · rw [ho] at hq hgo
        obtain ⟨rfl, rfl⟩ := hq
        have hz := oneG_err formsL _ z ho
        refine ⟨0, 0, 0, 0, 0, 0, 0, 0, z, setHP K, rfl, rfl, fun b11 => ⟨fun h => by omega, fun _ => ⟨fun _ => ?_, fun h0 => by omega⟩⟩⟩
        refine .inr ⟨by rw [← hgo]; show z ≠ 0; omega, K, by rw [← hgo], _, rfl⟩
      · rw [ho] at hq hgo
        obtain ⟨e, K', rfl, rfl, hG⟩ := hq
        obtain ⟨hH, hKK⟩ := Grow.has hG
        simp only at hgo
        refine ⟨mv.k, mv.d1, mv.d2, mv.p1, mv.p2, mv.n, mv.c, e, 0, setHP K', rfl, rfl, fun b11 => ⟨fun h => ?_, fun h => ⟨fun h1 => absurd rfl h1, fun _ => ?_⟩⟩⟩
        · rw [if_pos (by omega)] at hgo
          exact .inr ⟨by rw [← hgo]; exact (by decide : (3 : Int) ≠ 0), K', by rw [← hgo], _, rfl⟩
        · rw [if_neg (by omega)] at hgo
          have hP := hT.put hKK (x := (mv, x0 + 1)) (a1 := mv.k) (a2 := mv.d1) (a3 := mv.d2) (a4 := mv.p1) (a5 := mv.p2) (a6 := mv.n) (a7 := mv.c) (a8 := e) (a9 := x0 + 1) ⟨⟨rfl, rfl, rfl, rfl, rfl, rfl, rfl⟩, hH, rfl⟩
          refine ⟨by omega, fun _ => ⟨by omega, fun _ b12 b13 => ⟨by omega, fun _ => ⟨by omega, fun _ v3 => ⟨by omega, fun _ => ⟨by omega, fun _ => ⟨by omega, fun _ => ⟨by omega, fun _ => ?_⟩⟩⟩⟩⟩⟩⟩⟩
          refine ⟨v3, x0 + 1, xs.length + 1, xs.length + 1, _, _, _, _, _, _, _, _, _, setHP K', rfl, rfl, rfl, rfl, rfl, rfl, rfl, fun _ _ => rfl, fun _ _ => rfl, fun _ _ => rfl, fun _ _ => rfl, fun _ _ => rfl, fun _ _ => rfl, fun _ _ => rfl, fun _ _ => rfl, ⟨K', xs ++ [(mv, x0 + 1)], _, rfl, ?_, ?_, ?_, ?_, ?_, ?_, hP, hgo⟩, ?_⟩
          all_goals simp only [List.getD_cons_zero, List.getD_cons_succ, List.length_append, List.length_singleton, updF, if_true]
          all_goals omega
end Go.RX.Sw

namespace Go.RX.Sy
open Go.RX Go.RX.Lp Go.RX.Sp Go.RX.Sv Go.RX.St
def sameCall : CallAnn := { use := fun _ hp => firstAbs hp ++ lastAbs hp, inc := { bo := 1 }, val := fun c => .bool (.var c.bo), new := fun _ h => h }
def callees (f : Nat) : Option CallAnn :=
  match f with
  | 12 => some sameCall
  | _ => none
def loops (f id : Nat) : Option LoopAnn :=
  match f, id with
  | 10, 0 => some { inc := { i := 1, bo := 1 }, slots := fun c => [(6, .int .i64 (.var c.i)), (5, .bool (.var c.bo))] }
  | _, _ => none
def hpR : List Ck := [.abs 0, .abs 1, .sli true 0 39 8 (.var 0) (mCols 0), .sli true 1 39 8 (.var 1) (mCols 8)]
end Go.RX.Sy

namespace Go.RX.Sy
open Go.RX Go.Proofs
noncomputable def cx : Ctx := { T := TT, FT := FT, loops := loops, callees := callees }
set_option maxRecDepth 100000
noncomputable def fm_rows : F := runF cx 10 ([SV.vv 0, SV.vv 1]) ([Ck.abs 0, Ck.abs 1, Ck.sli true 0 39 8 (E.var 0) [{ ck := CK.int (Go.IntKind.u8), w := 1, a := E.avar 0 }, { ck := CK.int (Go.IntKind.u8), w := 1, a := E.avar 1 }, { ck := CK.int (Go.IntKind.u8), w := 1, a := E.avar 2 }, { ck := CK.int (Go.IntKind.u8), w := 1, a := E.avar 3 }, { ck := CK.int (Go.IntKind.u8), w := 1, a := E.avar 4 }, { ck := CK.int (Go.IntKind.i64), w := 1, a := E.avar 5 }, { ck := CK.int (Go.IntKind.u64), w := 1, a := E.avar 6 }, { ck := CK.cv, w := 1, a := E.avar 7 }], Ck.sli true 1 39 8 (E.var 1) [{ ck := CK.int (Go.IntKind.u8), w := 1, a := E.avar 8 }, { ck := CK.int (Go.IntKind.u8), w := 1, a := E.avar 9 }, { ck := CK.int (Go.IntKind.u8), w := 1, a := E.avar 10 }, { ck := CK.int (Go.IntKind.u8), w := 1, a := E.avar 11 }, { ck := CK.int (Go.IntKind.u8), w := 1, a := E.avar 12 }, { ck := CK.int (Go.IntKind.i64), w := 1, a := E.avar 13 }, { ck := CK.int (Go.IntKind.u64), w := 1, a := E.avar 14 }, { ck := CK.cv, w := 1, a := E.avar 15 }]]) ({ b := 0, v := 2, i := 2, a := 16, bo := 0, p := 2, r := 0 }) Tryz.f10
def st_rows (P : Program) (Post : Value → List HP → Prop) (x0 : Int) (x1 : Int) (A0 : Nat → Int) (A1 : Nat → Int) (A2 : Nat → Int) (A3 : Nat → Int) (A4 : Nat → Int) (A5 : Nat → Int) (A6 : Nat → Int) (A7 : Nat → Int) (A8 : Nat → Int) (A9 : Nat → Int) (A10 : Nat → Int) (A11 : Nat → Int) (A12 : Nat → Int) (A13 : Nat → Int) (A14 : Nat → Int) (A15 : Nat → Int) (v0 : V1) (v1 : V1) (p0 : HP) (p1 : HP) : Prop :=
 Need (0 ≤ x0) (
 Need (0 ≤ x1) (
 ∃ (I0x0 : Ext → Prop) (m0x0 : Ext → Nat), (∃ x2 : Int, ∃ q0 : Bool, x2 = 0 ∧ q0 = (x0 == x1) ∧ I0x0 ⟨[], [], [x2], [], [q0], [], []⟩) ∧
 ∀ x2 : Int, ∀ q0 : Bool, I0x0 ⟨[], [], [x2], [], [q0], [], []⟩ →
 Need (0 ≤ x0) (
 Fork ((x2 < x0) ∧ (q0 = true)) (
 Need (0 ≤ x2) (
 Need (x2 < x0) (
 Need (x2 < x1) (
 ∃ post, Meets P 12 [.agg #[.int .u8 (A0 (Int.toNat x2)), .int .u8 (A1 (Int.toNat x2)), .int .u8 (A2 (Int.toNat x2)), .int .u8 (A3 (Int.toNat x2)), .int .u8 (A4 (Int.toNat x2)), .int .i64 (A5 (Int.toNat x2)), .int .u64 (A6 (Int.toNat x2)), (bslV (A7 (Int.toNat x2)))], .agg #[.int .u8 (A8 (Int.toNat x2)), .int .u8 (A9 (Int.toNat x2)), .int .u8 (A10 (Int.toNat x2)), .int .u8 (A11 (Int.toNat x2)), .int .u8 (A12 (Int.toNat x2)), .int .i64 (A13 (Int.toNat x2)), .int .u64 (A14 (Int.toNat x2)), (bslV (A15 (Int.toNat x2)))]] [p0, p1] post ∧
 ∀ x hs, post x hs → ∃ q1 : Bool, x = .bool q1 ∧ hs = [p0, p1] ∧
 Need ((-9223372036854775808) ≤ (x2 + 1)) (
 Need ((x2 + 1) ≤ 9223372036854775807) (
 ∃ x2' : Int, ∃ q0' : Bool, x2' = (x2 + 1) ∧ q0' = q1 ∧ I0x0 ⟨[], [], [x2'], [], [q0'], [], []⟩ ∧ m0x0 ⟨[], [], [x2'], [], [q0'], [], []⟩ < m0x0 ⟨[], [], [x2], [], [q0], [], []⟩)))))) (
 Post (.bool q0) [p0, p1, sliHP true 39 8 v0.v (Int.toNat x0) (tabL (Int.toNat x0) [colI .u8 1 A0, colI .u8 1 A1, colI .u8 1 A2, colI .u8 1 A3, colI .u8 1 A4, colI .i64 1 A5, colI .u64 1 A6, colV 1 (fun j => bslV (A7 j))]), sliHP true 39 8 v1.v (Int.toNat x1) (tabL (Int.toNat x1) [colI .u8 1 A8, colI .u8 1 A9, colI .u8 1 A10, colI .u8 1 A11, colI .u8 1 A12, colI .i64 1 A13, colI .u64 1 A14, colV 1 (fun j => bslV (A15 j))])]))))
theorem vc_rows (P : Program) (Post : Value → List HP → Prop) (x0 : Int) (x1 : Int) (A0 : Nat → Int) (A1 : Nat → Int) (A2 : Nat → Int) (A3 : Nat → Int) (A4 : Nat → Int) (A5 : Nat → Int) (A6 : Nat → Int) (A7 : Nat → Int) (A8 : Nat → Int) (A9 : Nat → Int) (A10 : Nat → Int) (A11 : Nat → Int) (A12 : Nat → Int) (A13 : Nat → Int) (A14 : Nat → Int) (A15 : Nat → Int) (v0 : V1) (v1 : V1) (p0 : HP) (p1 : HP) (L : Nat → LC) : VC P (fun v hs => Post v (hs.take 4)) fm_rows { iv := [x0, x1], av := [A0, A1, A2, A3, A4, A5, A6, A7, A8, A9, A10, A11, A12, A13, A14, A15], bo := [], bv := [], vv := [v0, v1], pv := [p0, p1] } L = st_rows P Post x0 x1 A0 A1 A2 A3 A4 A5 A6 A7 A8 A9 A10 A11 A12 A13 A14 A15 v0 v1 p0 p1 := by kernel_rfl
theorem run_rows : runF cx 10 ([SV.vv 0, SV.vv 1]) ([Ck.abs 0, Ck.abs 1, Ck.sli true 0 39 8 (E.var 0) [{ ck := CK.int (Go.IntKind.u8), w := 1, a := E.avar 0 }, { ck := CK.int (Go.IntKind.u8), w := 1, a := E.avar 1 }, { ck := CK.int (Go.IntKind.u8), w := 1, a := E.avar 2 }, { ck := CK.int (Go.IntKind.u8), w := 1, a := E.avar 3 }, { ck := CK.int (Go.IntKind.u8), w := 1, a := E.avar 4 }, { ck := CK.int (Go.IntKind.i64), w := 1, a := E.avar 5 }, { ck := CK.int (Go.IntKind.u64), w := 1, a := E.avar 6 }, { ck := CK.cv, w := 1, a := E.avar 7 }], Ck.sli true 1 39 8 (E.var 1) [{ ck := CK.int (Go.IntKind.u8), w := 1, a := E.avar 8 }, { ck := CK.int (Go.IntKind.u8), w := 1, a := E.avar 9 }, { ck := CK.int (Go.IntKind.u8), w := 1, a := E.avar 10 }, { ck := CK.int (Go.IntKind.u8), w := 1, a := E.avar 11 }, { ck := CK.int (Go.IntKind.u8), w := 1, a := E.avar 12 }, { ck := CK.int (Go.IntKind.i64), w := 1, a := E.avar 13 }, { ck := CK.int (Go.IntKind.u64), w := 1, a := E.avar 14 }, { ck := CK.cv, w := 1, a := E.avar 15 }]]) ({ b := 0, v := 2, i := 2, a := 16, bo := 0, p := 2, r := 0 }) Tryz.f10 = fm_rows := rfl
end Go.RX.Sy

namespace Go.RX.Sx
open Go.RX Go.Proofs
noncomputable def cx : Ctx := { T := TT, FT := FT }
set_option maxRecDepth 100000
noncomputable def fm_same : F := runF cx 12 ([SV.agg [SV.int (Go.IntKind.u8) (E.var 0), SV.int (Go.IntKind.u8) (E.var 1), SV.int (Go.IntKind.u8) (E.var 2), SV.int (Go.IntKind.u8) (E.var 3), SV.int (Go.IntKind.u8) (E.var 4), SV.int (Go.IntKind.i64) (E.var 5), SV.int (Go.IntKind.u64) (E.var 6), SV.vv 0], SV.agg [SV.int (Go.IntKind.u8) (E.var 7), SV.int (Go.IntKind.u8) (E.var 8), SV.int (Go.IntKind.u8) (E.var 9), SV.int (Go.IntKind.u8) (E.var 10), SV.int (Go.IntKind.u8) (E.var 11), SV.int (Go.IntKind.i64) (E.var 12), SV.int (Go.IntKind.u64) (E.var 13), SV.vv 1]]) ([Ck.sli false 0 5 1 (E.var 14) [{ ck := CK.int (Go.IntKind.u8), w := 1, a := E.avar 0 }], Ck.sli false 1 5 1 (E.var 15) [{ ck := CK.int (Go.IntKind.u8), w := 1, a := E.avar 1 }]]) ({ b := 0, v := 2, i := 16, a := 2, bo := 0, p := 0, r := 0 }) Tryz.f12
def st_same (_ : Program) (Post : Value → List HP → Prop) (x0 : Int) (x1 : Int) (x2 : Int) (x3 : Int) (x4 : Int) (x5 : Int) (x6 : Int) (x7 : Int) (x8 : Int) (x9 : Int) (x10 : Int) (x11 : Int) (x12 : Int) (x13 : Int) (x14 : Int) (x15 : Int) (A0 : Nat → Int) (A1 : Nat → Int) (v0 : V1) (v1 : V1) : Prop :=
 ∀ _ : Nat, ∀ _ : Nat, Post (.bool ((((((x0 == x7) && ((x1 == x8) && (x2 == x9))) && ((x3 == x10) && (x4 == x11))) && (x5 == x12)) && (x6 == x13)) && (strD (bytF A0 x14) == strD (bytF A1 x15)))) [sliHP false 5 1 v0.v (Int.toNat x14) (tabL (Int.toNat x14) [colI .u8 1 A0]), sliHP false 5 1 v1.v (Int.toNat x15) (tabL (Int.toNat x15) [colI .u8 1 A1])]
theorem vc_same (P : Program) (Post : Value → List HP → Prop) (x0 : Int) (x1 : Int) (x2 : Int) (x3 : Int) (x4 : Int) (x5 : Int) (x6 : Int) (x7 : Int) (x8 : Int) (x9 : Int) (x10 : Int) (x11 : Int) (x12 : Int) (x13 : Int) (x14 : Int) (x15 : Int) (A0 : Nat → Int) (A1 : Nat → Int) (v0 : V1) (v1 : V1) (L : Nat → LC) : VC P (fun v hs => Post v (hs.take 2)) fm_same { iv := [x0, x1, x2, x3, x4, x5, x6, x7, x8, x9, x10, x11, x12, x13, x14, x15], av := [A0, A1], bo := [], bv := [], vv := [v0, v1] } L = st_same P Post x0 x1 x2 x3 x4 x5 x6 x7 x8 x9 x10 x11 x12 x13 x14 x15 A0 A1 v0 v1 := by kernel_rfl
theorem run_same : runF cx 12 ([SV.agg [SV.int (Go.IntKind.u8) (E.var 0), SV.int (Go.IntKind.u8) (E.var 1), SV.int (Go.IntKind.u8) (E.var 2), SV.int (Go.IntKind.u8) (E.var 3), SV.int (Go.IntKind.u8) (E.var 4), SV.int (Go.IntKind.i64) (E.var 5), SV.int (Go.IntKind.u64) (E.var 6), SV.vv 0], SV.agg [SV.int (Go.IntKind.u8) (E.var 7), SV.int (Go.IntKind.u8) (E.var 8), SV.int (Go.IntKind.u8) (E.var 9), SV.int (Go.IntKind.u8) (E.var 10), SV.int (Go.IntKind.u8) (E.var 11), SV.int (Go.IntKind.i64) (E.var 12), SV.int (Go.IntKind.u64) (E.var 13), SV.vv 1]]) ([Ck.sli false 0 5 1 (E.var 14) [{ ck := CK.int (Go.IntKind.u8), w := 1, a := E.avar 0 }], Ck.sli false 1 5 1 (E.var 15) [{ ck := CK.int (Go.IntKind.u8), w := 1, a := E.avar 1 }]]) ({ b := 0, v := 2, i := 16, a := 2, bo := 0, p := 0, r := 0 }) Tryz.f12 = fm_same := rfl
end Go.RX.Sx

namespace Go.RX
/-- A call that looks at memory: whatever memory bears these views. -/
theorem Meets.lookIn {P : Program} {f : Nat} {args : List Value} {L : List HP} {Q : Value → Prop} (hw : ∀ h ∈ L, h.wr = false) (hm : Meets P f args L fun v _ => Q v) (pre : List HP)
    (hp : ∀ (w : World) (Fs : List HP), Owns (pre ++ Fs) w → ∀ h ∈ L, ∃ S : Nat → Prop, h.p w S ∧ ∀ k, S k → k < w.heap.size) : Meets P f args pre fun v hs => Q v ∧ hs = pre := by
  intro w Fs ho
  have hp := hp w Fs ho
  have hc : ∀ i : Nat, ∃ S : Nat → Prop, ∀ x, L[i]? = some x → x.p w S ∧ ∀ k, S k → k < w.heap.size := by
    intro i
    cases hi : L[i]? with
    | none => exact ⟨fun _ => False, fun x hx => nomatch hx⟩
    | some y =>
      obtain ⟨S, hS⟩ := hp y (List.mem_of_getElem? hi)
      exact ⟨S, fun x hx => by cases hx; exact hS⟩
  obtain ⟨S, hS⟩ := Classical.axiomOfChoice hc
  have o2 : Owns (L ++ [keptHP w.heap.size w]) w := by
    refine ⟨fun i => if i < L.length then S i else fun k => k < w.heap.size, ⟨?_, ?_⟩⟩
    · intro i x hx
      by_cases hi : i < L.length
      · rw [List.getElem?_append_left hi] at hx
        simp only [if_pos hi]
        exact hS i x hx
      · rw [List.getElem?_append_right (by omega)] at hx
        simp only [if_neg hi]
        have : i - L.length = 0 := by
          rcases Nat.eq_zero_or_pos (i - L.length) with h | h
          · exact h
          · rw [List.getElem?_eq_none (by simp; omega)] at hx
            cases hx
        rw [this] at hx
        cases hx
        exact ⟨⟨fun _ => Iff.rfl, fun _ _ => rfl⟩, fun _ h => h⟩
    · intro i j x y hij hx hy hwr
      have hf : ∀ (i : Nat) x, (L ++ [keptHP w.heap.size w])[i]? = some x → x.wr = false := by
        intro i x hx
        rcases List.mem_append.1 (List.mem_of_getElem? hx) with h | h
        · exact hw x h
        · rw [List.mem_singleton] at h
          rw [h]
          rfl
      rw [hf i x hx, hf j y hy] at hwr
      simp at hwr
  refine (hm w _ o2).mono ?_
  rintro e w' ⟨v, hs, rfl, hq, ⟨S', hS'⟩, hsm⟩
  have hk := (hS'.at_ hs.length (keptHP w.heap.size w) (by simp)).1
  obtain ⟨T, hT⟩ := ho
  exact ⟨v, pre, rfl, ⟨hq, rfl⟩, ⟨T, hT.keep hsm.size fun k hk' => hk.2 k hk'⟩, hsm⟩
end Go.RX

namespace Go.RX.Sx
open Go Go.RX Go.Proofs Go.RX.Ln Go.RX.Su Go.RX.Sv
def sameM (a b : Mv) : Bool := (((((a.k == b.k) && ((a.d1 == b.d1) && (a.d2 == b.d2))) && ((a.p1 == b.p1) && (a.p2 == b.p2))) && (a.n == b.n)) && (a.c == b.c)) && (a.b == b.b)
theorem byt_of (l : List UInt8) : strD (bytF (byF l) l.length) = l := by
  rw [strD_bytF]
  apply List.ext_getElem?
  intro j
  rw [List.getElem?_map, Int.toNat_natCast]
  by_cases hj : j < l.length
  · rw [List.getElem?_range hj, List.getElem?_eq_getElem hj, Option.map_some, byF, List.getD_eq_getElem?_getD, List.getElem?_eq_getElem hj, Option.getD_some, Int.toNat_natCast, UInt8.ofNat_toNat]
  · rw [List.getElem?_eq_none (by simpa using hj), List.getElem?_eq_none (by simpa using hj)]
    rfl
def vHP (e : Int) (l : List UInt8) : HP := sliHP false 5 1 (bslV e) l.length (byC l)
theorem same_view (a b : Mv) (e f : Int) : Meets Tryz.prog 12 [mvV a e, mvV b f] [vHP e a.b, vHP f b.b] fun x _ => x = .bool (sameM a b) := by
  have h := Meets.of_runE (C := cx) (cnt := { i := 16, a := 2, v := 2 })
    (ρ := { iv := [a.k, a.d1, a.d2, a.p1, a.p2, a.n, a.c, b.k, b.d1, b.d2, b.p1, b.p2, b.n, b.c, (a.b.length : Int), (b.b.length : Int)], av := [byF a.b, byF b.b], vv := [⟨bslV e, bslV_one e⟩, ⟨bslV f, bslV_one f⟩] }) okT okFT okM Tryz.func12 (by constructor <;> rfl)
    (Post := fun x _ => x = .bool (sameM a b))
    (args := [.agg [.int .u8 (.var 0), .int .u8 (.var 1), .int .u8 (.var 2), .int .u8 (.var 3), .int .u8 (.var 4), .int .i64 (.var 5), .int .u64 (.var 6), .vv 0], .agg [.int .u8 (.var 7), .int .u8 (.var 8), .int .u8 (.var 9), .int .u8 (.var 10), .int .u8 (.var 11), .int .i64 (.var 12), .int .u64 (.var 13), .vv 1]])
    (hp := [.sli false 0 5 1 (.var 14) [⟨.int .u8, 1, .avar 0⟩], .sli false 1 5 1 (.var 15) [⟨.int .u8, 1, .avar 1⟩]]) run_same
    (vc_same Tryz.prog (fun x _ => x = .bool (sameM a b)) a.k a.d1 a.d2 a.p1 a.p2 a.n a.c b.k b.d1 b.d2 b.p1 b.p2 b.n b.c a.b.length b.b.length (byF a.b) (byF b.b) ⟨bslV e, bslV_one e⟩ ⟨bslV f, bslV_one f⟩ (fun _ => LC.none)) ?_
  · exact h
  unfold st_same
  rw [byt_of, byt_of]
  exact fun _ _ => rfl
theorem own_view {e : Int} {l : List UInt8} {w : World} {S : Nat → Prop} (h : (bHP (e, l)).p w S) (hb : ∀ k, S k → k < w.heap.size) : ∃ S : Nat → Prop, (vHP e l).p w S ∧ ∀ k, S k → k < w.heap.size := by
  obtain ⟨ho, hS⟩ := h
  simp only [if_true] at ho
  refine ⟨fun k => (bslV e).ownBlock = some k ∧ (false = true ∨ 0 < l.length), ⟨?_, fun k => Iff.rfl⟩, fun k hk => hb k ((hS k).2 ⟨hk.1, .inl rfl⟩)⟩
  simp only [Bool.false_eq_true, if_false]
  refine ⟨ho.1, ?_⟩
  rcases ho.2 with ⟨hv, hn⟩ | ⟨g, o, cap, cur, hv, hg, hnc, hcm, hcs, htk⟩
  · exact ⟨none, 0, 0, hv, hn.symm, Nat.le_refl _, (fun _ => hn), fun ad had => by cases had⟩
  · refine ⟨some ⟨g, o, none⟩, l.length, cap, hv, rfl, hnc, (fun h => by cases h), fun ad had => ?_⟩
    cases had
    refine ⟨fun _ => rfl, ?_⟩
    rw [show bslV (e, l).1 = bslV e from rfl, hv] at ho
    exact ownsAt_cells ho
theorem set_view {K : BSet} {e : Int} {l : List UInt8} {w : World} {S : Nat → Prop} (h : (setHP K).p w S) (hb : ∀ k, S k → k < w.heap.size) (hH : Has K e l) : ∃ S : Nat → Prop, (vHP e l).p w S ∧ ∀ k, S k → k < w.heap.size := by
  rcases hH with ⟨rfl, rfl⟩ | hm
  · refine ⟨fun _ => False, ⟨?_, fun k => ⟨False.elim, fun h => by simp [bslV_nil, Value.ownBlock] at h⟩⟩, fun k h => h.elim⟩
    simp only [Bool.false_eq_true, if_false]
    exact ⟨rfl, none, 0, 0, rfl, rfl, Nat.le_refl _, fun _ => rfl, fun ad had => by cases had⟩
  · obtain ⟨T, hT, hS⟩ := h
    obtain ⟨i, hi, he⟩ := List.getElem_of_mem hm
    have hx : (K.map bHP)[i]? = some (bHP (e, l)) := by rw [List.getElem?_map, List.getElem?_eq_getElem hi, he]; rfl
    obtain ⟨hp, hb'⟩ := hT.at_ i _ hx
    exact own_view hp hb'
/-- Two moves compared, each one's bytes among what is owned. -/
theorem same_meets (a b : Mv) (e f : Int) (K K' : BSet) (h1 : Has K e a.b) (h2 : Has K' f b.b) : Meets Tryz.prog 12 [mvV a e, mvV b f] [setHP K, setHP K'] fun x hs => x = .bool (sameM a b) ∧ hs = [setHP K, setHP K'] := by
  refine Meets.lookIn (L := [vHP e a.b, vHP f b.b]) (Q := fun x => x = .bool (sameM a b)) ?_ (same_view a b e f) _ ?_
  · intro h hm
    simp only [List.mem_cons, List.not_mem_nil, or_false] at hm
    rcases hm with rfl | rfl <;> rfl
  · intro w Fs ho h hm
    obtain ⟨S, hS⟩ := ho
    have s1 := hS.at_ 0 (setHP K) rfl
    have s2 := hS.at_ 1 (setHP K') rfl
    simp only [List.mem_cons, List.not_mem_nil, or_false] at hm
    rcases hm with rfl | rfl
    · exact set_view s1.1 s1.2 h1
    · exact set_view s2.1 s2.2 h2
end Go.RX.Sx
