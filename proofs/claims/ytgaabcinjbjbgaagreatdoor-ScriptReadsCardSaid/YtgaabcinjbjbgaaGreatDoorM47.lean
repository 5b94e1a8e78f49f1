/- The comparison of two rows of moves. · ScriptReads: the law over what is laid. · What a row says of the library's variables, az the contracts ask it; the wrap of a row with the world's shape kept. -/
import Derived.Test.YtgaabcinjbjbgaaGreatDoorM46
import Derived.Test.YtgaabcinjbjbgaaGreatDoorTrF
import Derived.Test.YtgaabcinjbjbgaaGreatDoorScOk
import Derived.Test.YtgaabcinjbjbgaaGreatDoorM34
import Derived.Test.YtgaabcinjbjbgaaGreatDoorRows
import Derived.Handed
import Derived.SizedLaws
import Derived.Lib.LaidU8
import Derived.Shelf.Vars
import Derived.LaidLaws

namespace Go.RX.Sy
open Go Go.RX Go.Proofs Go.RX.Ln Go.RX.Su Go.RX.Sv Go.RX.Sx
def MvT (K : BSet) (xs : List Mv) (A1 A2 A3 A4 A5 A6 A7 A8 : Nat → Int) : Prop :=
  ∀ j x, xs[j]? = some x → (A1 j = x.k ∧ A2 j = x.d1 ∧ A3 j = x.d2 ∧ A4 j = x.p1 ∧ A5 j = x.p2 ∧ A6 j = x.n ∧ A7 j = x.c) ∧ Has K (A8 j) x.b
def upS (xs ys : List Mv) (n : Nat) : Bool := (List.range n).all fun j => sameM (xs.getD j (Mv.z 0)) (ys.getD j (Mv.z 0))
def sameL (xs ys : List Mv) : Bool := ((xs.length : Int) == ys.length) && upS xs ys xs.length
theorem upS_succ (xs ys : List Mv) (n : Nat) : upS xs ys (n + 1) = (upS xs ys n && sameM (xs.getD n (Mv.z 0)) (ys.getD n (Mv.z 0))) := by
  unfold upS
  rw [List.range_succ, List.all_append]
  simp
theorem upS_false (xs ys : List Mv) (n m : Nat) (h : n ≤ m) (hf : upS xs ys n = false) : upS xs ys m = false := by
  obtain ⟨d, rfl⟩ := Nat.exists_eq_add_of_le h
  clear h
  induction d with
  | zero => exact hf
  | succ d ih => rw [← Nat.add_assoc, upS_succ, ih]; rfl
theorem rows_meets (K K' : BSet) (v u : V1) (xs ys : List Mv) (A0 A1 A2 A3 A4 A5 A6 A7 B0 B1 B2 B3 B4 B5 B6 B7 : Nat → Int) (hx : MvT K xs A0 A1 A2 A3 A4 A5 A6 A7) (hy : MvT K' ys B0 B1 B2 B3 B4 B5 B6 B7) (hl : xs.length ≤ 1000000) :
    Meets Tryz.prog 10 [v.v, u.v] [setHP K, setHP K', sliHP true 39 8 v.v xs.length (tabM xs.length A0 A1 A2 A3 A4 A5 A6 A7), sliHP true 39 8 u.v ys.length (tabM ys.length B0 B1 B2 B3 B4 B5 B6 B7)]
      fun x hs => x = .bool (sameL xs ys) ∧ hs = [setHP K, setHP K', sliHP true 39 8 v.v xs.length (tabM xs.length A0 A1 A2 A3 A4 A5 A6 A7), sliHP true 39 8 u.v ys.length (tabM ys.length B0 B1 B2 B3 B4 B5 B6 B7)] := by
  have h := Meets.of_runE (C := cx) (cnt := { i := 2, a := 16, v := 2, p := 2 })
    (ρ := { iv := [(xs.length : Int), (ys.length : Int)], av := [A0, A1, A2, A3, A4, A5, A6, A7, B0, B1, B2, B3, B4, B5, B6, B7], vv := [v, u], pv := [setHP K, setHP K'] }) okT okFT okM Tryz.func10 (by constructor <;> rfl)
    (Post := fun x hs => x = .bool (sameL xs ys) ∧ hs.take 4 = [setHP K, setHP K', sliHP true 39 8 v.v xs.length (tabM xs.length A0 A1 A2 A3 A4 A5 A6 A7), sliHP true 39 8 u.v ys.length (tabM ys.length B0 B1 B2 B3 B4 B5 B6 B7)])
    (args := [.vv 0, .vv 1]) (hp := hpR) run_rows
    (vc_rows Tryz.prog (fun x hs => x = .bool (sameL xs ys) ∧ hs = [setHP K, setHP K', sliHP true 39 8 v.v xs.length (tabM xs.length A0 A1 A2 A3 A4 A5 A6 A7), sliHP true 39 8 u.v ys.length (tabM ys.length B0 B1 B2 B3 B4 B5 B6 B7)]) xs.length ys.length A0 A1 A2 A3 A4 A5 A6 A7 B0 B1 B2 B3 B4 B5 B6 B7 v u (setHP K) (setHP K') (fun _ => LC.none)) ?_
  · exact Meets.post h fun x hs hq => ⟨hs.take 4, Ent.sub (List.take_sublist 4 hs), hq⟩
  unfold st_rows
  refine ⟨by omega, fun _ => ⟨by omega, fun _ => ?_⟩⟩
  refine ⟨fun e => 0 ≤ e.i.getD 0 0 ∧ e.i.getD 0 0 ≤ xs.length ∧ e.bo.getD 0 false = (((xs.length : Int) == ys.length) && upS xs ys (e.i.getD 0 0).toNat), fun e => ((xs.length : Int) - e.i.getD 0 0).toNat, ⟨0, _, rfl, rfl, by simp, by simp, by simp [upS]⟩, ?_⟩
  rintro i q ⟨hi0, hi1, hq⟩
  simp only [List.getD_cons_zero] at hi0 hi1 hq
  refine ⟨by omega, fun _ => ⟨fun hc => ?_, fun hc => ?_⟩⟩
  · obtain ⟨hlt, hqt⟩ := hc
    rw [hqt] at hq
    have hq' := hq.symm
    rw [Bool.and_eq_true, beq_iff_eq] at hq'
    have hix : i.toNat < xs.length := by omega
    have hiy : i.toNat < ys.length := by omega
    obtain ⟨⟨x1, x2, x3, x4, x5, x6, x7⟩, xb⟩ := hx i.toNat _ (List.getElem?_eq_getElem hix)
    obtain ⟨⟨y1, y2, y3, y4, y5, y6, y7⟩, yb⟩ := hy i.toNat _ (List.getElem?_eq_getElem hiy)
    rw [x1, x2, x3, x4, x5, x6, x7, y1, y2, y3, y4, y5, y6, y7]
    refine ⟨hi0, fun _ => ⟨hlt, fun _ => ⟨by omega, fun _ => ⟨_, same_meets _ _ _ _ K K' xb yb, ?_⟩⟩⟩⟩
    rintro x hs ⟨rfl, rfl⟩
    refine ⟨_, rfl, rfl, by omega, fun _ => ⟨by omega, fun _ => ⟨i + 1, _, rfl, rfl, ⟨?_, ?_, ?_⟩, ?_⟩⟩⟩
    all_goals simp only [List.getD_cons_zero]
    · omega
    · omega
    · rw [show (i + 1).toNat = i.toNat + 1 by omega, upS_succ, hq'.2, hq'.1]
      simp [List.getD_eq_getElem?_getD, List.getElem?_eq_getElem hix, List.getElem?_eq_getElem hiy]
    · omega
  · refine ⟨?_, rfl⟩
    congr 1
    unfold sameL
    by_cases hi : i < xs.length
    · have hqf : q = false := by cases q; rfl; exact absurd ⟨hi, rfl⟩ hc
      rw [hqf] at hq ⊢
      rcases Bool.and_eq_false_iff.1 hq.symm with h | h
      · rw [h]; rfl
      · rw [upS_false xs ys _ xs.length (by omega) h, Bool.and_false]
    · rw [hq, show i.toNat = xs.length by omega]
end Go.RX.Sy

namespace Go.RX.Tr
open Go Go.RX Go.Proofs Go.RX.Ln Go.RX.Su Go.RX.Sv Go.RX.St Go.RX.Sw Go.RX.Sx Go.RX.Sy
variable {n0 : Nat} {w0 : World}
theorem nil_sli_p (t s : Nat) (w : World) : (sliHP true t s (.slice none 0 0) 0 []).p w (fun _ => False) := by
  refine ⟨?_, fun k => ⟨False.elim, fun h => by simp [Value.ownBlock] at h⟩⟩
  simp only [if_true]
  exact ⟨by simp, .inl ⟨rfl, rfl⟩⟩
theorem nil_sli (a : List HP) (t s : Nat) : Ent a (a ++ [sliHP true t s (.slice none 0 0) 0 []]) := fun w Fs o =>
  Owns.add (a := a) (b := Fs) o _ (fun _ => False) (Nat.le_refl _) (fun _ _ => rfl) (nil_sli_p t s w) (fun _ h => h.elim)
theorem no_set (a : List HP) : Ent a (a ++ [setHP []]) :=
  Ent.trans (Ent.frame (a := []) (b := [setHP []]) (Ent.star (l := []) (by simp)) a) (Ent.perm List.perm_append_comm)
/-- The program's answer in one form: with an error there are no moves. -/
def RdQ (L : HP) (r : RR) (x : Value) (hs : List HP) : Prop :=
  ∃ (v : V1) (K : BSet) (xs : List (Mv × Int)) (A1 A2 A3 A4 A5 A6 A7 A8 A9 : Nat → Int), (r.2.2 = 0 → xs = r.1) ∧ (r.2.2 ≠ 0 → xs = []) ∧
    x = .tuple #[v.v, .int .i64 (if r.2.2 = 0 then 0 else r.2.1), .int .i64 r.2.2] ∧ TabI K xs A1 A2 A3 A4 A5 A6 A7 A8 A9 ∧
    hs = [L, setHP K, sliHP true 39 8 v.v xs.length (tabM xs.length A1 A2 A3 A4 A5 A6 A7 A8)]
theorem read_meets (hL : Laid0 w0 n0) (K : BSet) (l : List UInt8) (hl : l.length ≤ 500000) : Meets Tryz.prog 8 [strV l] [keptHP n0 w0, setHP K] (RdQ (keptHP n0 w0) (preadR l)) := by
  refine Meets.post (pread_meets hL K l hl) ?_
  rintro x hs (⟨h0, v, K, A1, A2, A3, A4, A5, A6, A7, A8, A9, rfl, hT, rfl⟩ | ⟨h0, K, rfl, rfl⟩)
  · exact ⟨_, Ent.refl _, v, K, (preadR l).1, A1, A2, A3, A4, A5, A6, A7, A8, A9, fun _ => rfl, fun h => absurd h0 h, by rw [if_pos h0, h0], hT, rfl⟩
  · refine ⟨_, nil_sli _ 39 8, ⟨.slice none 0 0, rfl⟩, K, [], fun _ => 0, fun _ => 0, fun _ => 0, fun _ => 0, fun _ => 0, fun _ => 0, fun _ => 0, fun _ => 0, fun _ => 0, fun h => absurd h h0, fun _ => rfl, by rw [if_neg h0], fun j x hx => by simp at hx, rfl⟩
theorem go_pre : ∀ (ls : List (List UInt8)) (n : Int) (acc : List (Mv × Int)), acc <+: (goR ls n acc).1
  | [], _, acc => List.prefix_refl _
  | s :: r, n, acc => by
    rw [goR]
    split
    · exact go_pre r (n + 1) acc
    · split
      · exact List.prefix_refl _
      · split
        · exact List.prefix_refl _
        · exact (List.prefix_append _ _).trans (go_pre r (n + 1) _)
theorem go_end : ∀ (ls : List (List UInt8)) (n : Int) (acc : List (Mv × Int)), (goR ls n acc).2.2 = 0 → (goR ls n acc).2.1 = 0
  | [], _, acc, _ => rfl
  | s :: r, n, acc, h => by
    rw [goR] at h ⊢
    split
    · rename_i hw
      rw [if_pos hw] at h
      exact go_end r (n + 1) acc h
    · rename_i hw
      rw [if_neg hw] at h
      split
      · rename_i z hz
        rw [hz] at h
        have := oneG_err formsL _ z hz
        simp only at h
        omega
      · rename_i m hm
        rw [hm] at h
        simp only at h
        split
        · rename_i hx
          rw [if_pos hx] at h
          exact absurd h (by decide : ¬ ((3 : Int) = 0))
        · rename_i hx
          rw [if_neg hx] at h
          exact go_end r (n + 1) _ h
theorem go_len : ∀ (ls : List (List UInt8)) (n : Int) (acc : List (Mv × Int)), acc.length ≤ 1000 → (goR ls n acc).1.length ≤ 1000
  | [], _, acc, h => h
  | s :: r, n, acc, h => by
    rw [goR]
    split
    · exact go_len r (n + 1) acc h
    · split
      · exact h
      · split
        · exact h
        · exact go_len r (n + 1) _ (by rw [List.length_append, List.length_singleton]; omega)
theorem sameM_refl (m : Mv) : sameM m m = true := by unfold sameM; simp
theorem sameL_refl (xs : List Mv) : sameL xs xs = true := by
  unfold sameL upS
  rw [Bool.and_eq_true, List.all_eq_true]
  exact ⟨by simp, fun j _ => sameM_refl _⟩
theorem put_get {xs : List (Mv × Int)} {y : Mv × Int} {R : RR} {ls n} (h : goR ls n (xs ++ [y]) = R) : R.1[xs.length]? = some y ∧ xs.length < R.1.length := by
  obtain ⟨ys, e⟩ := go_pre ls n (xs ++ [y])
  rw [h] at e
  rw [← e]
  constructor
  · rw [List.append_assoc, List.getElem?_append_right (Nat.le_refl _)]
    simp
  · simp
theorem min_at (k n x0 : Int) (h : (k = n ∧ (k = 0 ∨ k < x0)) ∨ (k ≤ n ∧ 0 < k ∧ x0 ≤ k ∧ (k = 1 ∨ k - 1 < x0))) (h0 : 0 ≤ k) : (k == iop .imin .i64 n (iop .imax .i64 x0 1)) = true := by
  rw [beq_iff_eq]
  show k = if (if x0 < 1 then 1 else x0) < n then (if x0 < 1 then 1 else x0) else n
  split <;> split <;> omega
theorem loop_part (hL : Laid0 w0 n0) (l : List UInt8) (hl : l.length ≤ 10000) (x0 : Int) (R : RR) (hR : readR l = R) (K2 : BSet) (A9 A10 A11 A12 A13 A14 A15 A16 A17 : Nat → Int) (hT : TabI K2 R.1 A9 A10 A11 A12 A13 A14 A15 A16 A17) :
    st_loop Tryz.prog (fun v _ => v = .bool true) x0 R.1.length (rowS l) A9 A10 A11 A12 A13 A14 A15 A16 A17 (keptHP n0 w0) (setHP []) (setHP K2) := by
  unfold st_loop
  rw [rowS0]
  intro _ _ _ _ _ _ _ _
  refine ⟨fun h => by omega, fun _ => ?_⟩
  intro _ _ _ _ _ _ _ _
  refine ⟨fun e => ∃ (K : BSet) (xs : List (Mv × Int)), e.p.getD 0 HP.emp = setHP K ∧ e.i.getD 0 0 = xs.length ∧ e.i.getD 2 0 = xs.length ∧ xs.length ≤ 1000 ∧ ((xs.length : Int) = 0 ∨ (xs.length : Int) < x0) ∧ 0 ≤ e.i.getD 1 0 ∧ 0 ≤ (e.a.getD 0 fun _ => 0) 0 ∧ e.i.getD 1 0 + (e.a.getD 0 fun _ => 0) 0 ≤ l.length ∧
      goR (splitL 10 (strD (e.a.getD 0 fun _ => 0))) (e.i.getD 1 0 + 1) xs = R, fun e => ((e.a.getD 0 fun _ => 0) 0).toNat, ?_, ?_⟩
  · refine ⟨0, 0, 0, rowS l, setHP [], rfl, rfl, rfl, rfl, rfl, ?_⟩
    refine ⟨[], [], rfl, rfl, rfl, by simp, .inl rfl, by simp, ?_, ?_, ?_⟩
    all_goals simp only [List.getD_cons_zero, List.getD_cons_succ]
    · rw [rowS0]; omega
    · rw [rowS0]; omega
    · rw [strD_rowS]; exact hR
  rintro x7 x8 x9 A p ⟨K, xs, hp, hm, hm2, hx, hk, hn0, hA0, hn1, hgo⟩
  simp only [List.getD_cons_zero, List.getD_cons_succ] at hp hm hm2 hn0 hA0 hn1 hgo
  subst hp hm hm2
  have hAl := strD_length A
  have hpre := go_pre (splitL 10 (strD A)) (x8 + 1) xs
  rw [hgo] at hpre
  have hlen := hpre.length_le
  -- the range's end, at all moves
  have hfin : ∀ (ys : List (Mv × Int)) (q r : Int), (ys, q, r) = R → ys = xs → Need (0 ≤ (R.1.length : Int)) ((Value.bool ((xs.length : Int) == iop .imin .i64 (R.1.length : Int) (iop .imax .i64 x0 1))) = .bool true) := fun ys q r h e => ⟨by omega, fun _ => by
    rw [← h, e]
    rw [min_at _ _ _ (.inl ⟨rfl, hk⟩) (by omega)]⟩
  refine ⟨_, index_meets (strD A) 10, ?_⟩
  rintro x hs ⟨rfl, rfl⟩
  refine ⟨Lib.indexByte (strD A) 10, rfl, rfl, ?_⟩
  generalize hx3 : Lib.indexByte (strD A) 10 = x3
  refine ⟨fun h3 => ?_, fun h3 => ?_⟩
  · have hsp := splitL_end _ _ hx3.symm h3
    rw [hsp] at hgo
    simp only [goR] at hgo
    refine ⟨by omega, fun _ => ⟨by omega, fun _ => ?_⟩⟩
    have hsl : (strD A).length ≤ 500000 := by omega
    generalize strD A = s at hgo hsl ⊢
    refine words_step hL s (by omega) _ fun v2 => ?_
    simp only [Int.toNat_natCast]
    rw [tab_strs _ _ fun j _ => tabO_at (wordsR s) j]
    refine ⟨fun hw => ?_, fun hw => ?_⟩
    · rw [if_pos (List.eq_nil_of_length_eq_zero (by omega))] at hgo
      exact hfin _ _ _ hgo rfl
    · have hne : wordsR s ≠ [] := fun e => hw (by rw [e]; rfl)
      rw [if_neg hne] at hgo
      refine ⟨_, pmove_meets hL K v2 (wordsR s) (List.length_pos_iff.2 hne) (words_len s hsl), ?_⟩
      intro x hs hq
      rcases ho : oneR (wordsR s) with z | mv
      · rw [ho] at hq hgo
        obtain ⟨rfl, rfl⟩ := hq
        have hz := oneG_err formsL _ z ho
        refine ⟨0, 0, 0, 0, 0, 0, 0, 0, z, setHP K, rfl, rfl, fun b11 => ⟨fun h => by omega, fun _ => ⟨fun _ => ?_, fun h0 => by omega⟩⟩⟩
        exact hfin _ _ _ hgo rfl
      · rw [ho] at hq hgo
        obtain ⟨e, K', rfl, rfl, hG⟩ := hq
        obtain ⟨hH, hKK⟩ := Grow.has hG
        simp only at hgo
        refine ⟨mv.k, mv.d1, mv.d2, mv.p1, mv.p2, mv.n, mv.c, e, 0, setHP K', rfl, rfl, fun b11 => ⟨fun h => ?_, fun h => ⟨fun h1 => absurd rfl h1, fun _ => ?_⟩⟩⟩
        · rw [if_pos (by omega)] at hgo
          exact hfin _ _ _ hgo rfl
        · rw [if_neg (by omega)] at hgo
          obtain ⟨hget, hlt⟩ := put_get (ls := []) (n := x8 + 1 + 1) (by simpa only [goR] using hgo)
          obtain ⟨⟨a1, a2, a3, a4, a5, a6, a7⟩, a8, a9⟩ := hT _ _ hget
          rw [a1, a2, a3, a4, a5, a6, a7, a9]
          refine ⟨by omega, fun _ => ⟨by omega, fun _ b19 => ⟨by omega, fun _ => ⟨by omega, fun _ => ⟨by omega, fun _ => ⟨by omega, fun _ => ⟨by omega, fun _ => ⟨by omega, fun _ => ⟨by omega, fun _ => ⟨by omega, fun _ => ⟨by omega, fun _ => ⟨fun _ => ?_, fun h => absurd (fun hh => by simp only at hh; omega) h⟩⟩⟩⟩⟩⟩⟩⟩⟩⟩⟩⟩
          refine ⟨_, same_meets mv mv e _ K' K2 hH a8, ?_⟩
          rintro x hs ⟨rfl, rfl⟩
          refine ⟨true, by rw [sameM_refl], rfl, fun h => absurd rfl h, fun _ => ⟨by omega, fun _ => ⟨by omega, fun _ => ⟨fun hx0 => ?_, fun hx0 => ?_⟩⟩⟩⟩
          · rw [min_at _ _ _ (.inr ⟨by omega, by omega, by omega, by omega⟩) (by omega)]
          · have : R.1.length = xs.length + 1 := by rw [← hgo]; simp
            rw [min_at _ _ _ (.inl ⟨by omega, by omega⟩) (by omega)]
  · obtain ⟨hlt3, hsp⟩ := splitL_at _ _ hx3.symm h3
    rw [hsp, ← strD_take A x3 (by omega), ← strD_drop A (x3 + 1) (by omega) (by omega)] at hgo
    simp only [goR] at hgo
    have hsl : (strD (updF A 0 x3)).length ≤ 500000 := by rw [strD_take A x3 (by omega), List.length_take]; omega
    refine ⟨by omega, fun _ => ⟨by omega, fun _ => ⟨by omega, fun _ => ⟨by omega, fun _ => ⟨by omega, fun _ => ⟨by omega, fun _ => ?_⟩⟩⟩⟩⟩⟩
    generalize strD (updF A 0 x3) = s at hgo hsl ⊢
    refine words_step hL s (by omega) _ fun v2 => ?_
    simp only [Int.toNat_natCast]
    rw [tab_strs _ _ fun j _ => tabO_at (wordsR s) j]
    refine ⟨fun hw => ?_, fun hw => ?_⟩
    · rw [if_pos (List.eq_nil_of_length_eq_zero (by omega))] at hgo
      refine ⟨by omega, fun _ => ⟨by omega, fun _ => ⟨by omega, fun _ => ⟨by omega, fun _ => ?_⟩⟩⟩⟩
      refine ⟨xs.length, x8 + 1, xs.length, _, setHP K, rfl, rfl, rfl, rfl, rfl, ⟨K, xs, rfl, rfl, rfl, hx, hk, ?_, ?_, ?_, hgo⟩, ?_⟩
      all_goals simp only [List.getD_cons_zero, List.getD_cons_succ, updF, if_true]
      all_goals omega
    · have hne : wordsR s ≠ [] := fun e => hw (by rw [e]; rfl)
      rw [if_neg hne] at hgo
      refine ⟨_, pmove_meets hL K v2 (wordsR s) (List.length_pos_iff.2 hne) (words_len s hsl), ?_⟩
      intro x hs hq
      rcases ho : oneR (wordsR s) with z | mv
      · rw [ho] at hq hgo
        obtain ⟨rfl, rfl⟩ := hq
        have hz := oneG_err formsL _ z ho
        refine ⟨0, 0, 0, 0, 0, 0, 0, 0, z, setHP K, rfl, rfl, fun b11 => ⟨fun h => by omega, fun _ => ⟨fun _ => ?_, fun h0 => by omega⟩⟩⟩
        exact hfin _ _ _ hgo rfl
      · rw [ho] at hq hgo
        obtain ⟨e, K', rfl, rfl, hG⟩ := hq
        obtain ⟨hH, hKK⟩ := Grow.has hG
        simp only at hgo
        refine ⟨mv.k, mv.d1, mv.d2, mv.p1, mv.p2, mv.n, mv.c, e, 0, setHP K', rfl, rfl, fun b11 => ⟨fun h => ?_, fun h => ⟨fun h1 => absurd rfl h1, fun _ => ?_⟩⟩⟩
        · rw [if_pos (by omega)] at hgo
          exact hfin _ _ _ hgo rfl
        · rw [if_neg (by omega)] at hgo
          obtain ⟨hget, hlt⟩ := put_get hgo
          obtain ⟨⟨a1, a2, a3, a4, a5, a6, a7⟩, a8, a9⟩ := hT _ _ hget
          rw [a1, a2, a3, a4, a5, a6, a7, a9]
          refine ⟨by omega, fun _ => ⟨by omega, fun _ b19 => ⟨by omega, fun _ => ⟨by omega, fun _ => ⟨by omega, fun _ => ⟨by omega, fun _ => ⟨by omega, fun _ => ⟨by omega, fun _ => ⟨by omega, fun _ => ⟨by omega, fun _ => ⟨by omega, fun _ => ⟨fun _ => ?_, fun h => absurd (fun hh => by simp only at hh; omega) h⟩⟩⟩⟩⟩⟩⟩⟩⟩⟩⟩⟩
          refine ⟨_, same_meets mv mv e _ K' K2 hH a8, ?_⟩
          rintro x hs ⟨rfl, rfl⟩
          refine ⟨true, by rw [sameM_refl], rfl, fun h => absurd rfl h, fun _ => ⟨by omega, fun _ => ⟨by omega, fun _ => ⟨fun hx0 => ?_, fun hx0 => ?_⟩⟩⟩⟩
          · rw [min_at _ _ _ (.inr ⟨by omega, by omega, by omega, by omega⟩) (by omega)]
          · refine ⟨by omega, fun _ => ⟨by omega, fun _ => ⟨by omega, fun _ => ⟨by omega, fun _ => ?_⟩⟩⟩⟩
            refine ⟨xs.length + 1, x8 + 1, xs.length + 1, _, setHP K', rfl, rfl, rfl, rfl, rfl, ⟨K', xs ++ [(mv, x8 + 1)], rfl, ?_, ?_, ?_, ?_, ?_, ?_, ?_, hgo⟩, ?_⟩
            all_goals simp only [List.getD_cons_zero, List.getD_cons_succ, List.length_append, List.length_singleton, updF, if_true]
            all_goals omega
theorem pureOk (C : Ctx) (hC : C.pure = pure) : PureOk Tryz.prog C := by
  intro f xs hp r ρ h hvc
  unfold pureRes at h
  rw [hC] at h
  unfold pure at h
  split at h
  · rename_i g hg
    split at hg
    · cases hg
      unfold pWorks at h
      split at h
      · cases h
        exact Sc.works_meets
      · cases h
    · cases hg
  · cases h
theorem TabI.mv {K : BSet} {xs : List (Mv × Int)} {A1 A2 A3 A4 A5 A6 A7 A8 A9 : Nat → Int} (h : TabI K xs A1 A2 A3 A4 A5 A6 A7 A8 A9) : MvT K (xs.map Prod.fst) A1 A2 A3 A4 A5 A6 A7 A8 := by
  intro j x hx
  rw [List.getElem?_map] at hx
  obtain ⟨y, hy, rfl⟩ := Option.map_eq_some_iff.1 hx
  obtain ⟨h1, h2, _⟩ := h j y hy
  exact ⟨h1, h2⟩
theorem law_meets (hL : Laid0 w0 n0) (l : List UInt8) (x0 : Int) : Meets Tryz.prog 3 [strV l, .int .i64 x0] [keptHP n0 w0] fun x _ => x = .bool true := by
  have h3 : Meets Tryz.prog 3 [strV l, .int .i64 x0] [keptHP n0 w0, setHP [], setHP [], setHP []] fun x _ => x = .bool true := by
    have e0 : [strV l, .int .i64 x0] = [SV.strE (.avar 0), SV.int .i64 (.var 0)].map (SV.val { iv := [x0], av := [rowS l], pv := [keptHP n0 w0, setHP [], setHP [], setHP []] }) := by
      rw [strV_row]; rfl
    rw [e0]
    refine Meets.of_runE (C := cx) (cnt := { a := 1, i := 1, p := 4 }) (ρ := { iv := [x0], av := [rowS l], pv := [keptHP n0 w0, setHP [], setHP [], setHP []] }) okT okFT okM Tryz.func3 (by constructor <;> rfl)
      (Post := fun x _ => x = .bool true) (args := [.strE (.avar 0), .int .i64 (.var 0)]) (hp := [.abs 0, .abs 1, .abs 2, .abs 3]) run_law
      (vc_law Tryz.prog (fun x _ => x = .bool true) x0 (rowS l) (keptHP n0 w0) (setHP []) (setHP []) (setHP []) (fun _ => LC.none)) ?_ (pureOk cx rfl)
    unfold st_law
    rw [rowS0]
    intro _ _
    refine ⟨by omega, fun _ => ⟨fun _ => rfl, fun hbig => ?_⟩⟩
    have hl : l.length ≤ 10000 := by omega
    rw [strD_rowS]
    refine ⟨_, read_meets hL [] l (by omega), ?_⟩
    rw [show preadR l = readR l from if_neg (by omega)]
    rintro x hs ⟨v, K, xs, A1, A2, A3, A4, A5, A6, A7, A8, A9, hxs, hxs', rfl, hT, rfl⟩
    refine ⟨v, _, _, xs.length, A1, A2, A3, A4, A5, A6, A7, A8, setHP K, rfl, by rw [Int.toNat_natCast]; rfl, ?_⟩
    refine ⟨_, rread_meets [] l hl, ?_⟩
    rintro x hs ⟨u, w, K2, B1, B2, B3, B4, B5, B6, B7, B8, B9, rfl, hT2, rfl⟩
    have hend := go_end (splitL 10 l) 1 []
    rw [show goR (splitL 10 l) 1 [] = readR l from rfl] at hend
    have hloop := loop_part hL l hl x0 (readR l) rfl K2 _ _ _ _ _ _ _ _ _ hT2
    refine ⟨u, w, (readR l).2.1, (readR l).2.2, (readR l).1.length, B1, B2, B3, B4, B5, B6, B7, B8, B9, setHP K2, rfl, by rw [Int.toNat_natCast]; rfl, ?_⟩
    have hlen : (readR l).1.length ≤ 1000000 := by have := go_len (splitL 10 l) 1 [] (by simp); show (goR (splitL 10 l) 1 []).1.length ≤ _; omega
    have hline : (if (readR l).2.2 = 0 then 0 else (readR l).2.1) = (readR l).2.1 := by
      split
      · rename_i h; exact (hend h).symm
      · rfl
    rw [hline]
    refine fun _ _ => ⟨fun hc => ?_, fun hc => ?_⟩
    · have e := hxs hc.2
      subst e
      have := rows_meets K K2 v u ((readR l).1.map Prod.fst) ((readR l).1.map Prod.fst) A1 A2 A3 A4 A5 A6 A7 A8 B1 B2 B3 B4 B5 B6 B7 B8 (TabI.mv hT) (TabI.mv hT2) (by rw [List.length_map]; exact hlen)
      rw [List.length_map] at this
      refine ⟨_, this, ?_⟩
      rintro x hs ⟨rfl, rfl⟩
      refine ⟨true, by rw [sameL_refl], rfl, by omega, fun _ => ⟨fun h => ?_, fun _ => hloop⟩⟩
      rcases h with ((h | h) | h) | h
      · exact absurd rfl h
      · exact absurd rfl h
      · exact absurd rfl h.2
      · exact absurd hc.2 h.1
    · have hz : (readR l).2.2 ≠ 0 := fun h => hc ⟨fun hh => by rcases hh with hh | hh <;> exact hh rfl, h⟩
      obtain rfl := hxs' hz
      refine ⟨by omega, fun _ => ⟨fun h => ?_, fun _ => hloop⟩⟩
      rcases h with (h | h) | h
      · exact absurd rfl h
      · exact absurd rfl h
      · exact absurd rfl h.2
  refine fun w Fs ho => ?_
  have ho' : Owns ([keptHP n0 w0, setHP [], setHP [], setHP []] ++ Fs) w := no_set [keptHP n0 w0, setHP [], setHP []] w Fs (no_set [keptHP n0 w0, setHP []] w Fs (no_set [keptHP n0 w0] w Fs ho))
  exact h3 w Fs ho'
end Go.RX.Tr

namespace Go.RX
open Go Go.Proofs Go.RowKit
theorem returnsInHanded_shapedX {H : Type} {enc : TypeId × Value → H} {a : Assume} {C : Checked} {os : Os} {f : FuncId} {fn : Func} {s : ChangeSpec} {conds : List PathCond} {apart fresh handsOn again : Bool} {X : World → Array Value → Prop}
    (hX : ∀ (w w' : World) (args : Array Value), w.heap = w'.heap → X w args → X w' args)
    (own : ownKnob C.prog.godebug = none) (started : os.Started) (noInit : C.prog.inits.idxOf? f = none) (hfn : C.prog.funcs[f]? = some fn)
    (witness : ∃ (w : World) (tape : Tape) (i : Input), w.os = os ∧ (w.forCall tape i).Shaped C.prog ∧ i.vars = [] ∧ Input.okWide C.prog (w.forCall tape i) .any w.heap.size f i ∧
      ((s.pre enc C.prog fn conds apart (w.forCall tape i).memory i.args ∧ X (w.forCall tape i).memory i.args) ∧ sizedMet enc C.prog fn (OpenSpec.ofChange s) apart (w.forCall tape i).memory i.args) ∧ a.holds C.prog (lone (Frame.enter C.prog f i.args .normal) [] (w.forCall tape i)))
    (contract : ∀ (W : World) (base : Nat) (args : Array Value) (ds gs : List (DataW H)) (before : List MemPlace),
      (∀ (j : Nat) t v, fn.params[j]? = some t → args[j]? = some v → Value.okWide C.prog W .any base t v) →
      DataW.Whole enc C.prog fn.params.toList s.vars apart W args.toList ds gs before →
      conds.all (PathCond.test C.prog ⟨fn.params.toList, ds, s.plain.varTypes C.prog, gs⟩) = true →
      (DataW.weightsEach C.prog (fn.params.toList ++ s.plain.varTypes C.prog) (ds ++ gs)).all (· ≤ reachBytes) = true → X W args → W.ShapedOpen C.prog →
      a.holds C.prog (lone (Frame.enter C.prog f args .normal) [] W) →
      Calls C.prog f args W fun e W' => ∃ v, e = .returned v ∧ s.post enc C.prog fn apart fresh handsOn again W args v W') :
    ReturnsInHanded a C os f .any (fun w args => (s.pre enc C.prog fn conds apart w args ∧ X w args) ∧ sizedMet enc C.prog fn (OpenSpec.ofChange s) apart w args) (s.post enc C.prog fn apart fresh handsOn again) := by
  refine returnsInHanded_of_calls own started noInit witness ?_
  intro w tape i _ hsh _ hok hpre hholds
  obtain ⟨_, _, _, fn', hfn', _, _, _, _, hval⟩ := hok
  have e : fn' = fn := Option.some.inj (hfn'.symm.trans hfn)
  subst e
  obtain ⟨⟨⟨ds, gs, before, hw, hc⟩, hx⟩, hz⟩ := hpre
  have hw' := DataW.Whole.of_heap (w' := w.forCall tape i) (by rfl) hw
  refine (contract (w.forCall tape i) w.heap.size i.args ds gs before hval hw' hc (hz.weights hw) (hX _ _ _ (by rfl) hx) hsh hholds).mono fun e W' ⟨v, he, hp⟩ => ?_
  subst he
  exact ChangeSpec.post_blind hp
theorem trod_iface {H : Type} {enc : TypeId × Value → H} {P : Program} {w : World} {base : Nat} {sp : Nat → Bool} {held : Bool} {fuel : Nat} {t : TypeId} {ms : Array (String × TypeId)} {cs : List Value} {nm : String} {d : DataW H} {p : List MemPlace}
    (ht : P.underlying t = some (.interface ms)) (h : DataW.trod enc P w base sp held fuel t cs = some (.iface nm d, p)) : ∃ u v, cs = [.iface u v] := by
  cases fuel with
  | zero => simp [DataW.trod] at h
  | succ fuel =>
    simp only [DataW.trod, ht] at h
    split at h <;> simp_all
namespace Ln
theorem iface_var {W : World} {n : String} {nm : String} {d : DataW Unit} (g t : Nat) {ms : Array (String × TypeId)} (h : Lib.VarReads Tryz.prog W n (.iface nm d)) (hg : Tryz.prog.globalNamed n = some g) (ht : (Tryz.prog.globals[g]?).map (·.type) = some t) (hi : Tryz.prog.underlying t = some (.interface ms)) :
    ∃ te pe, W.cell? ⟨g, 0, none⟩ = some (.iface te pe) := by
  obtain ⟨g', t', cs, fuel, p, hg', ht', hv, htr⟩ := h
  obtain rfl := Option.some.inj (hg.symm.trans hg')
  obtain rfl := Option.some.inj (ht.symm.trans ht')
  obtain ⟨u, v, hcs⟩ := trod_iface hi htr
  refine ⟨u, v, ?_⟩
  have := World.var?_cell hg hv 0
  rw [this]
  have : cs = #[.iface u v] := by
    cases cs
    simpa using hcs
  rw [this]
  rfl
theorem var_lt {W : World} {n : String} {d : DataW Unit} (g : Nat) (h : Lib.VarReads Tryz.prog W n d) (hg : Tryz.prog.globalNamed n = some g) : g < W.heap.size := by
  obtain ⟨g', t', cs, fuel, p, hg', ht', hv, htr⟩ := h
  obtain rfl := Option.some.inj (hg.symm.trans hg')
  unfold World.var? at hv
  rw [hg] at hv
  simp only [Option.bind_some] at hv
  rcases Nat.lt_or_ge g W.heap.size with h | h
  · exact h
  · rw [Array.getElem?_eq_none h] at hv
    simp at hv
theorem pow_data : (YtgaabcinjbjbgaaGreatDoor.Rows.laid_internal_strconv_uint64pow10 : DataW Unit) = Lib.tabData .u64 Lib.pow10Tab := by kernel_rfl
/-- What is laid, out of the row's own words. -/
theorem laid0 {l : List (String × DataW Unit)} {W : World} (hL : laidMet Tryz.prog l W) (h1 : ("internal/strconv.uint64pow10", YtgaabcinjbjbgaaGreatDoor.Rows.laid_internal_strconv_uint64pow10) ∈ l)
    (h2 : ("strconv.ErrSyntax", YtgaabcinjbjbgaaGreatDoor.Rows.laid_strconv_ErrSyntax) ∈ l) (h3 : ("strconv.ErrRange", YtgaabcinjbjbgaaGreatDoor.Rows.laid_strconv_ErrRange) ∈ l) (h4 : ("math/bits.deBruijn64tab", YtgaabcinjbjbgaaGreatDoor.Rows.laid_math_bits_deBruijn64tab) ∈ l)
    (hsh : W.ShapedOpen Tryz.prog) : Laid0 W W.heap.size := by
  have r1 := Lib.laidMet.reads hL h1
  have r2 := Lib.laidMet.reads hL h2
  have r3 := Lib.laidMet.reads hL h3
  have r4 := Lib.laidMet.reads hL h4
  refine ⟨?_, cell_of_shapedOpen_int (zero := #[.int .i64 0]) (t := 3) hsh (of_decide_eq_true (by kernel_rfl)) (by kernel_rfl) rfl (by kernel_rfl) (by kernel_rfl) Tryz.underlying3, ?_, ?_, ?_⟩
  · have := var_lt 7 r4 (by kernel_rfl)
    omega
  · rw [pow_data] at r1
    obtain ⟨g', t', cs, fuel, p, hg', ht', hv, htr⟩ := r1
    have hg : Tryz.prog.globalNamed "internal/strconv.uint64pow10" = some 1 := by kernel_rfl
    obtain rfl := Option.some.inj (hg.symm.trans hg')
    unfold Lib.TabIs
    rw [hv]
    have ht : (Tryz.prog.globals[1]?).map (·.type) = some 240 := by kernel_rfl
    obtain rfl := Option.some.inj (ht.symm.trans ht')
    have hcs := Lib.cells_of_tab Tryz.underlying240 Tryz.underlying36 (by kernel_rfl) (by kernel_rfl) htr
    rw [← hcs]
  · exact iface_var 2 95 r2 (by kernel_rfl) (by kernel_rfl) Tryz.underlying95
  · exact iface_var 3 95 r3 (by kernel_rfl) (by kernel_rfl) Tryz.underlying95
end Ln
end Go.RX
