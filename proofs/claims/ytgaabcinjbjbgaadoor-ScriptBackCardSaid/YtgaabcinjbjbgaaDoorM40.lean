/- What is printed is read az it was, plainly: lines and moves; printed by a program of ours (wip/tools/gen_bk.py). · The comparison of two rows of moves: what the function leaves to be shown; printed by a program of ours (wip/tools). -/
import Derived.Test.YtgaabcinjbjbgaaDoorBkA
import Derived.Test.YtgaabcinjbjbgaaDoorM25
import Derived.Test.YtgaabcinjbjbgaaDoorM36
import Derived.Test.YtgaabcinjbjbgaaDoorM26

namespace Go.RX.Bk
open Go Go.RX Go.Proofs Go.RX.Ln Go.RX.Su Go.RX.Sv Go.RX.Sp
def lineOf (m : Su.Mv) : List UInt8 := lineM m.k.toNat m.d1 m.d2 m.p1 m.p2 m.n m.c m.b
structure MvR (m : Su.Mv) : Prop where
  k : 0 ≤ m.k ∧ m.k ≤ 255
  d1 : 0 ≤ m.d1 ∧ m.d1 ≤ 255
  d2 : 0 ≤ m.d2 ∧ m.d2 ≤ 255
  p1 : 0 ≤ m.p1 ∧ m.p1 ≤ 255
  p2 : 0 ≤ m.p2 ∧ m.p2 ≤ 255
  n : -9223372036854775808 ≤ m.n ∧ m.n ≤ 9223372036854775807
  c : 0 ≤ m.c ∧ m.c ≤ 18446744073709551615
theorem oneG_at : ∀ (l : List (Int × List UInt8 × List UInt8)) (i : Nat) (k : Int) (w fs : List UInt8) (rest : List (List UInt8)), l[i]? = some (k, w, fs) → (∀ j, j < i → ∀ x, l[j]? = some x → x.2.1 ≠ w) → rest.length = fs.length →
    oneG l (w :: rest) = finR (fieldsR fs rest (Mv.z k))
  | [], i, k, w, fs, rest, h, _, _ => by simp at h
  | (k', w', fs') :: r, i, k, w, fs, rest, h, hj, hl => by
    rw [oneG, List.getD_cons_zero]
    cases i with
    | zero =>
      simp only [List.getElem?_cons_zero, Option.some.injEq, Prod.mk.injEq] at h
      obtain ⟨rfl, rfl, rfl⟩ := h
      rw [if_pos rfl, if_neg (by rw [List.length_cons, hl]; omega), List.tail_cons]
    | succ i =>
      rw [if_neg (hj 0 (by omega) (k', w', fs') (by simp))]
      refine oneG_at r i k w fs rest (by simpa using h) (fun j hji x hx => hj (j + 1) (by omega) x (by simpa using hx)) hl
theorem words_apart : ∀ i : Fin 15, ∀ j : Fin 15, j.val < i.val → (formsL.getD j.val (0, [], [])).2.1 ≠ (formsL.getD i.val (0, [], [])).2.1 := by decide +kernel
theorem one_at (i : Nat) (hi : i < 15) (k : Int) (w fs : List UInt8) (rest : List (List UInt8)) (h : formsL[i]? = some (k, w, fs)) (hl : rest.length = fs.length) : oneR (w :: rest) = finR (fieldsR fs rest (Mv.z k)) := by
  refine oneG_at formsL i k w fs rest h (fun j hj x hx => ?_) hl
  have := words_apart ⟨i, hi⟩ ⟨j, by omega⟩ hj
  simp only [List.getD_eq_getElem?_getD] at this
  rw [h, hx] at this
  exact this
theorem one_inv : ∀ (l : List (Int × List UInt8 × List UInt8)) (ws : List (List UInt8)) (m : Su.Mv), oneG l ws = .inr m → ∃ x ∈ l, x.2.1 = ws.getD 0 [] ∧ ws.length = 1 + x.2.2.length ∧ fieldsR x.2.2 ws.tail (Mv.z x.1) = some m
  | [], ws, m, h => by cases h
  | (k, w, fs) :: r, ws, m, h => by
    rw [oneG] at h
    split at h
    · rename_i hw
      split at h
      · cases h
      · rename_i hl
        refine ⟨_, List.mem_cons_self .., hw, Classical.not_not.1 hl, ?_⟩
        simp only
        rcases hf : fieldsR fs ws.tail (Mv.z k) with _ | m'
        · rw [hf] at h; cases h
        · rw [hf] at h; cases h; rfl
    · obtain ⟨x, hx, h⟩ := one_inv r ws m h
      exact ⟨x, List.mem_cons_of_mem _ hx, h⟩
theorem nat_int {x : Int} (h : 0 ≤ x) : ((x.toNat : Nat) : Int) = x := by omega
theorem num64 (x : Int) (h : 0 ≤ x ∧ x ≤ 18446744073709551615) : numR 18446744073709551615 (Lib.decDigits x.toNat) = some x.toNat := (numR_iff _ (by decide) _ _).2 ⟨by omega, rfl⟩
theorem fs_d (k x0 x1 : Int) (h0 : 0 ≤ x0 ∧ x0 ≤ 255) (h1 : 0 ≤ x1 ∧ x1 ≤ 255) : fieldsR [100] [devS x0 x1] (Mv.z k) = some ⟨k, x0, x1, 0, 0, 0, 0, []⟩ := by
  simp [fieldsR, fieldR, Mv.z, dev_at x0 x1 h0 h1, nat_int h0.1, nat_int h1.1]
theorem bk_d (k : Int) (a : List UInt8) (m : Su.Mv) (h : fieldsR [100] [a] (Mv.z k) = some m) : ∃ (x0 : Int) (x1 : Int), ((0 ≤ x0 ∧ x0 ≤ 255) ∧ (0 ≤ x1 ∧ x1 ≤ 255)) ∧ a = devS x0 x1 ∧ m = ⟨k, x0, x1, 0, 0, 0, 0, []⟩ := by
  simp only [fieldsR, fieldR, List.headD_cons, List.tail_cons, Mv.z] at h
  rcases ha : devR a with _ | ⟨ua, va⟩
  · simp [ha] at h
  obtain ⟨⟨ra1, ra2⟩, ea⟩ := dev_back _ _ ha
  simp [ha] at h
  exact ⟨(ua : Int), (va : Int), ⟨⟨by omega, by omega⟩, ⟨by omega, by omega⟩⟩, ea, h.symm⟩
theorem fs_n (k x4 : Int) (h4 : -9223372036854775808 ≤ x4 ∧ x4 ≤ 9223372036854775807) : fieldsR [110] [Lib.itoa x4] (Mv.z k) = some ⟨k, 0, 0, 0, 0, x4, 0, []⟩ := by
  simp [fieldsR, fieldR, Mv.z, (wholeR_iff (Lib.itoa x4) x4).2 ⟨h4, rfl⟩]
theorem bk_n (k : Int) (a : List UInt8) (m : Su.Mv) (h : fieldsR [110] [a] (Mv.z k) = some m) : ∃ (x4 : Int), ((-9223372036854775808 ≤ x4 ∧ x4 ≤ 9223372036854775807)) ∧ a = Lib.itoa x4 ∧ m = ⟨k, 0, 0, 0, 0, x4, 0, []⟩ := by
  simp only [fieldsR, fieldR, List.headD_cons, List.tail_cons, Mv.z] at h
  rcases ha : wholeR a with _ | ua
  · simp [ha] at h
  obtain ⟨ra, ea⟩ := (wholeR_iff _ _).1 ha
  simp [ha] at h
  exact ⟨ua, ra, ea, h.symm⟩
theorem fs_nc (k x4 x5 : Int) (h4 : -9223372036854775808 ≤ x4 ∧ x4 ≤ 9223372036854775807) (h5 : 0 ≤ x5 ∧ x5 ≤ 18446744073709551615) : fieldsR [110, 99] [Lib.itoa x4, Lib.decDigits x5.toNat] (Mv.z k) = some ⟨k, 0, 0, 0, 0, x4, x5, []⟩ := by
  simp [fieldsR, fieldR, Mv.z, (wholeR_iff (Lib.itoa x4) x4).2 ⟨h4, rfl⟩, num64 x5 h5, nat_int h5.1]
theorem bk_nc (k : Int) (a b : List UInt8) (m : Su.Mv) (h : fieldsR [110, 99] [a, b] (Mv.z k) = some m) : ∃ (x4 : Int) (x5 : Int), ((-9223372036854775808 ≤ x4 ∧ x4 ≤ 9223372036854775807) ∧ (0 ≤ x5 ∧ x5 ≤ 18446744073709551615)) ∧ a = Lib.itoa x4 ∧ b = Lib.decDigits x5.toNat ∧ m = ⟨k, 0, 0, 0, 0, x4, x5, []⟩ := by
  simp only [fieldsR, fieldR, List.headD_cons, List.tail_cons, Mv.z] at h
  rcases ha : wholeR a with _ | ua
  · simp [ha] at h
  obtain ⟨ra, ea⟩ := (wholeR_iff _ _).1 ha
  rcases hb : numR 18446744073709551615 b with _ | ub
  · simp [ha, hb] at h
  obtain ⟨rb, eb⟩ := (numR_iff _ (by decide) _ _).1 hb
  simp [ha, hb] at h
  exact ⟨ua, (ub : Int), ⟨ra, ⟨by omega, by omega⟩⟩, ea, eb, h.symm⟩
theorem fs_db (k x0 x1 : Int) (l : List UInt8) (h0 : 0 ≤ x0 ∧ x0 ≤ 255) (h1 : 0 ≤ x1 ∧ x1 ≤ 255) : fieldsR [100, 98] [devS x0 x1, hexS l] (Mv.z k) = some ⟨k, x0, x1, 0, 0, 0, 0, l⟩ := by
  simp [fieldsR, fieldR, Mv.z, dev_at x0 x1 h0 h1, (unhex_iff (hexS l) l).2 rfl, nat_int h0.1, nat_int h1.1]
theorem bk_db (k : Int) (a b : List UInt8) (m : Su.Mv) (h : fieldsR [100, 98] [a, b] (Mv.z k) = some m) : ∃ (x0 : Int) (x1 : Int) (l : List UInt8), ((0 ≤ x0 ∧ x0 ≤ 255) ∧ (0 ≤ x1 ∧ x1 ≤ 255) ∧ True) ∧ a = devS x0 x1 ∧ b = hexS l ∧ m = ⟨k, x0, x1, 0, 0, 0, 0, l⟩ := by
  simp only [fieldsR, fieldR, List.headD_cons, List.tail_cons, Mv.z] at h
  rcases ha : devR a with _ | ⟨ua, va⟩
  · simp [ha] at h
  obtain ⟨⟨ra1, ra2⟩, ea⟩ := dev_back _ _ ha
  rcases hb : unhexR b with _ | ub
  · simp [ha, hb] at h
  have eb := (unhex_iff _ _).1 hb
  simp [ha, hb] at h
  exact ⟨(ua : Int), (va : Int), ub, ⟨⟨by omega, by omega⟩, ⟨by omega, by omega⟩, trivial⟩, ea, eb, h.symm⟩
theorem fs_dp (k x0 x1 x2 x3 : Int) (h0 : 0 ≤ x0 ∧ x0 ≤ 255) (h1 : 0 ≤ x1 ∧ x1 ≤ 255) (h2 : 0 ≤ x2 ∧ x2 ≤ 255) (h3 : 0 ≤ x3 ∧ x3 ≤ 255) : fieldsR [100, 112] [devS x0 x1, devS x2 x3] (Mv.z k) = some ⟨k, x0, x1, x2, x3, 0, 0, []⟩ := by
  simp [fieldsR, fieldR, Mv.z, dev_at x0 x1 h0 h1, dev_at x2 x3 h2 h3, nat_int h0.1, nat_int h1.1, nat_int h2.1, nat_int h3.1]
theorem bk_dp (k : Int) (a b : List UInt8) (m : Su.Mv) (h : fieldsR [100, 112] [a, b] (Mv.z k) = some m) : ∃ (x0 : Int) (x1 : Int) (x2 : Int) (x3 : Int), ((0 ≤ x0 ∧ x0 ≤ 255) ∧ (0 ≤ x1 ∧ x1 ≤ 255) ∧ (0 ≤ x2 ∧ x2 ≤ 255) ∧ (0 ≤ x3 ∧ x3 ≤ 255)) ∧ a = devS x0 x1 ∧ b = devS x2 x3 ∧ m = ⟨k, x0, x1, x2, x3, 0, 0, []⟩ := by
  simp only [fieldsR, fieldR, List.headD_cons, List.tail_cons, Mv.z] at h
  rcases ha : devR a with _ | ⟨ua, va⟩
  · simp [ha] at h
  obtain ⟨⟨ra1, ra2⟩, ea⟩ := dev_back _ _ ha
  rcases hb : devR b with _ | ⟨ub, vb⟩
  · simp [ha, hb] at h
  obtain ⟨⟨rb1, rb2⟩, eb⟩ := dev_back _ _ hb
  simp [ha, hb] at h
  exact ⟨(ua : Int), (va : Int), (ub : Int), (vb : Int), ⟨⟨by omega, by omega⟩, ⟨by omega, by omega⟩, ⟨by omega, by omega⟩, ⟨by omega, by omega⟩⟩, ea, eb, h.symm⟩
theorem fs_dn (k x0 x1 x4 : Int) (h0 : 0 ≤ x0 ∧ x0 ≤ 255) (h1 : 0 ≤ x1 ∧ x1 ≤ 255) (h4 : -9223372036854775808 ≤ x4 ∧ x4 ≤ 9223372036854775807) : fieldsR [100, 110] [devS x0 x1, Lib.itoa x4] (Mv.z k) = some ⟨k, x0, x1, 0, 0, x4, 0, []⟩ := by
  simp [fieldsR, fieldR, Mv.z, dev_at x0 x1 h0 h1, (wholeR_iff (Lib.itoa x4) x4).2 ⟨h4, rfl⟩, nat_int h0.1, nat_int h1.1]
theorem bk_dn (k : Int) (a b : List UInt8) (m : Su.Mv) (h : fieldsR [100, 110] [a, b] (Mv.z k) = some m) : ∃ (x0 : Int) (x1 : Int) (x4 : Int), ((0 ≤ x0 ∧ x0 ≤ 255) ∧ (0 ≤ x1 ∧ x1 ≤ 255) ∧ (-9223372036854775808 ≤ x4 ∧ x4 ≤ 9223372036854775807)) ∧ a = devS x0 x1 ∧ b = Lib.itoa x4 ∧ m = ⟨k, x0, x1, 0, 0, x4, 0, []⟩ := by
  simp only [fieldsR, fieldR, List.headD_cons, List.tail_cons, Mv.z] at h
  rcases ha : devR a with _ | ⟨ua, va⟩
  · simp [ha] at h
  obtain ⟨⟨ra1, ra2⟩, ea⟩ := dev_back _ _ ha
  rcases hb : wholeR b with _ | ub
  · simp [ha, hb] at h
  obtain ⟨rb, eb⟩ := (wholeR_iff _ _).1 hb
  simp [ha, hb] at h
  exact ⟨(ua : Int), (va : Int), ub, ⟨⟨by omega, by omega⟩, ⟨by omega, by omega⟩, rb⟩, ea, eb, h.symm⟩
theorem line_read (m : Su.Mv) (hr : MvR m) (hne : lineOf m ≠ []) : ∃ ws, lineOf m = joinB ws ∧ (∀ w ∈ ws, Okw w) ∧ ws ≠ [] ∧ oneR ws = .inr m := by
  obtain ⟨k, x0, x1, x2, x3, x4, x5, l⟩ := m
  obtain ⟨hk, h0, h1, h2, h3, h4, h5⟩ := hr
  simp only at hk h0 h1 h2 h3 h4 h5
  unfold lineOf at hne ⊢
  simp only at hne ⊢
  have hk' : k = 1 ∨ k = 2 ∨ k = 3 ∨ k = 4 ∨ k = 5 ∨ k = 6 ∨ k = 7 ∨ k = 8 ∨ k = 9 ∨ k = 10 ∨ k = 11 ∨ k = 12 ∨ k = 13 ∨ k = 14 ∨ k = 15 := by
    refine Classical.byContradiction fun hc => hne ?_
    rcases Nat.lt_or_ge k.toNat 16 with hlt | hge
    · obtain rfl : k = 0 := by omega
      rfl
    · obtain ⟨j, hj⟩ := Nat.exists_eq_add_of_le hge
      rw [hj, Nat.add_comm]
      rfl
  rcases hk' with rfl | rfl | rfl | rfl | rfl | rfl | rfl | rfl | rfl | rfl | rfl | rfl | rfl | rfl | rfl
  · rw [show lineM (Int.toNat 1) x0 x1 x2 x3 x4 x5 l = _ from line1 x0 x1 x2 x3 x4 x5 l] at hne ⊢
    by_cases hc : (x2 = 0 ∧ x3 = 0) ∧ x5 = 0 ∧ l.length = 0
    · rw [if_pos hc]
      obtain ⟨⟨rfl, rfl⟩, rfl, hl⟩ := hc
      obtain rfl := List.eq_nil_of_length_eq_zero hl
      refine ⟨[[100, 105, 97, 108], devS x0 x1, Lib.itoa x4], by simp [joinB], ?_, by simp, ?_⟩
      · intro w hw
        simp only [List.mem_cons, List.not_mem_nil, or_false] at hw
        rcases hw with rfl | rfl | rfl
        · exact ⟨by decide, by decide⟩
        · exact dev_ok _ _
        · exact itoa_ok _
      · rw [one_at 0 (by decide) 1 _ _ _ rfl rfl, fs_dn 1 x0 x1 x4 h0 h1 h4]
        rfl
    · rw [if_neg hc] at hne
      exact absurd rfl hne
  · rw [show lineM (Int.toNat 2) x0 x1 x2 x3 x4 x5 l = _ from line2 x0 x1 x2 x3 x4 x5 l] at hne ⊢
    by_cases hc : (x2 = 0 ∧ x3 = 0) ∧ x4 = 0 ∧ x5 = 0 ∧ l.length = 0
    · rw [if_pos hc]
      obtain ⟨⟨rfl, rfl⟩, rfl, rfl, hl⟩ := hc
      obtain rfl := List.eq_nil_of_length_eq_zero hl
      refine ⟨[[97, 110, 115, 119, 101, 114], devS x0 x1], by simp [joinB], ?_, by simp, ?_⟩
      · intro w hw
        simp only [List.mem_cons, List.not_mem_nil, or_false] at hw
        rcases hw with rfl | rfl
        · exact ⟨by decide, by decide⟩
        · exact dev_ok _ _
      · rw [one_at 1 (by decide) 2 _ _ _ rfl rfl, fs_d 2 x0 x1 h0 h1]
        rfl
    · rw [if_neg hc] at hne
      exact absurd rfl hne
  · rw [show lineM (Int.toNat 3) x0 x1 x2 x3 x4 x5 l = _ from line3 x0 x1 x2 x3 x4 x5 l] at hne ⊢
    by_cases hc : (x2 = 0 ∧ x3 = 0) ∧ x4 = 0 ∧ x5 = 0 ∧ l.length = 0
    · rw [if_pos hc]
      obtain ⟨⟨rfl, rfl⟩, rfl, rfl, hl⟩ := hc
      obtain rfl := List.eq_nil_of_length_eq_zero hl
      refine ⟨[[100, 101, 99, 108, 105, 110, 101], devS x0 x1], by simp [joinB], ?_, by simp, ?_⟩
      · intro w hw
        simp only [List.mem_cons, List.not_mem_nil, or_false] at hw
        rcases hw with rfl | rfl
        · exact ⟨by decide, by decide⟩
        · exact dev_ok _ _
      · rw [one_at 2 (by decide) 3 _ _ _ rfl rfl, fs_d 3 x0 x1 h0 h1]
        rfl
    · rw [if_neg hc] at hne
      exact absurd rfl hne
  · rw [show lineM (Int.toNat 4) x0 x1 x2 x3 x4 x5 l = _ from line4 x0 x1 x2 x3 x4 x5 l] at hne ⊢
    by_cases hc : (x2 = 0 ∧ x3 = 0) ∧ x4 = 0 ∧ x5 = 0 ∧ l.length = 0
    · rw [if_pos hc]
      obtain ⟨⟨rfl, rfl⟩, rfl, rfl, hl⟩ := hc
      obtain rfl := List.eq_nil_of_length_eq_zero hl
      refine ⟨[[104, 97, 110, 103], devS x0 x1], by simp [joinB], ?_, by simp, ?_⟩
      · intro w hw
        simp only [List.mem_cons, List.not_mem_nil, or_false] at hw
        rcases hw with rfl | rfl
        · exact ⟨by decide, by decide⟩
        · exact dev_ok _ _
      · rw [one_at 3 (by decide) 4 _ _ _ rfl rfl, fs_d 4 x0 x1 h0 h1]
        rfl
    · rw [if_neg hc] at hne
      exact absurd rfl hne
  · rw [show lineM (Int.toNat 5) x0 x1 x2 x3 x4 x5 l = _ from line5 x0 x1 x2 x3 x4 x5 l] at hne ⊢
    by_cases hc : (x0 = 0 ∧ x1 = 0) ∧ (x2 = 0 ∧ x3 = 0) ∧ x5 = 0 ∧ l.length = 0
    · rw [if_pos hc]
      obtain ⟨⟨rfl, rfl⟩, ⟨rfl, rfl⟩, rfl, hl⟩ := hc
      obtain rfl := List.eq_nil_of_length_eq_zero hl
      refine ⟨[[116, 105, 99, 107], Lib.itoa x4], by simp [joinB], ?_, by simp, ?_⟩
      · intro w hw
        simp only [List.mem_cons, List.not_mem_nil, or_false] at hw
        rcases hw with rfl | rfl
        · exact ⟨by decide, by decide⟩
        · exact itoa_ok _
      · rw [one_at 4 (by decide) 5 _ _ _ rfl rfl, fs_n 5 x4 h4]
        rfl
    · rw [if_neg hc] at hne
      exact absurd rfl hne
  · rw [show lineM (Int.toNat 6) x0 x1 x2 x3 x4 x5 l = _ from line6 x0 x1 x2 x3 x4 x5 l] at hne ⊢
    by_cases hc : (x0 = 0 ∧ x1 = 0) ∧ (x2 = 0 ∧ x3 = 0) ∧ x5 = 0 ∧ l.length = 0
    · rw [if_pos hc]
      obtain ⟨⟨rfl, rfl⟩, ⟨rfl, rfl⟩, rfl, hl⟩ := hc
      obtain rfl := List.eq_nil_of_length_eq_zero hl
      refine ⟨[[100, 101, 108, 105, 118, 101, 114], Lib.itoa x4], by simp [joinB], ?_, by simp, ?_⟩
      · intro w hw
        simp only [List.mem_cons, List.not_mem_nil, or_false] at hw
        rcases hw with rfl | rfl
        · exact ⟨by decide, by decide⟩
        · exact itoa_ok _
      · rw [one_at 5 (by decide) 6 _ _ _ rfl rfl, fs_n 6 x4 h4]
        rfl
    · rw [if_neg hc] at hne
      exact absurd rfl hne
  · rw [show lineM (Int.toNat 7) x0 x1 x2 x3 x4 x5 l = _ from line7 x0 x1 x2 x3 x4 x5 l] at hne ⊢
    by_cases hc : (x0 = 0 ∧ x1 = 0) ∧ (x2 = 0 ∧ x3 = 0) ∧ x5 = 0 ∧ l.length = 0
    · rw [if_pos hc]
      obtain ⟨⟨rfl, rfl⟩, ⟨rfl, rfl⟩, rfl, hl⟩ := hc
      obtain rfl := List.eq_nil_of_length_eq_zero hl
      refine ⟨[[100, 114, 111, 112], Lib.itoa x4], by simp [joinB], ?_, by simp, ?_⟩
      · intro w hw
        simp only [List.mem_cons, List.not_mem_nil, or_false] at hw
        rcases hw with rfl | rfl
        · exact ⟨by decide, by decide⟩
        · exact itoa_ok _
      · rw [one_at 6 (by decide) 7 _ _ _ rfl rfl, fs_n 7 x4 h4]
        rfl
    · rw [if_neg hc] at hne
      exact absurd rfl hne
  · rw [show lineM (Int.toNat 8) x0 x1 x2 x3 x4 x5 l = _ from line8 x0 x1 x2 x3 x4 x5 l] at hne ⊢
    by_cases hc : (x0 = 0 ∧ x1 = 0) ∧ (x2 = 0 ∧ x3 = 0) ∧ x5 = 0 ∧ l.length = 0
    · rw [if_pos hc]
      obtain ⟨⟨rfl, rfl⟩, ⟨rfl, rfl⟩, rfl, hl⟩ := hc
      obtain rfl := List.eq_nil_of_length_eq_zero hl
      refine ⟨[[100, 111, 117, 98, 108, 101], Lib.itoa x4], by simp [joinB], ?_, by simp, ?_⟩
      · intro w hw
        simp only [List.mem_cons, List.not_mem_nil, or_false] at hw
        rcases hw with rfl | rfl
        · exact ⟨by decide, by decide⟩
        · exact itoa_ok _
      · rw [one_at 7 (by decide) 8 _ _ _ rfl rfl, fs_n 8 x4 h4]
        rfl
    · rw [if_neg hc] at hne
      exact absurd rfl hne
  · rw [show lineM (Int.toNat 9) x0 x1 x2 x3 x4 x5 l = _ from line9 x0 x1 x2 x3 x4 x5 l] at hne ⊢
    by_cases hc : (x0 = 0 ∧ x1 = 0) ∧ (x2 = 0 ∧ x3 = 0) ∧ l.length = 0
    · rw [if_pos hc]
      obtain ⟨⟨rfl, rfl⟩, ⟨rfl, rfl⟩, hl⟩ := hc
      obtain rfl := List.eq_nil_of_length_eq_zero hl
      refine ⟨[[116, 97, 109, 112, 101, 114], Lib.itoa x4, Lib.decDigits x5.toNat], by simp [joinB], ?_, by simp, ?_⟩
      · intro w hw
        simp only [List.mem_cons, List.not_mem_nil, or_false] at hw
        rcases hw with rfl | rfl | rfl
        · exact ⟨by decide, by decide⟩
        · exact itoa_ok _
        · exact dec_ok _
      · rw [one_at 8 (by decide) 9 _ _ _ rfl rfl, fs_nc 9 x4 x5 h4 h5]
        rfl
    · rw [if_neg hc] at hne
      exact absurd rfl hne
  · rw [show lineM (Int.toNat 10) x0 x1 x2 x3 x4 x5 l = _ from line10 x0 x1 x2 x3 x4 x5 l] at hne ⊢
    by_cases hc : (x2 = 0 ∧ x3 = 0) ∧ x4 = 0 ∧ x5 = 0
    · rw [if_pos hc]
      obtain ⟨⟨rfl, rfl⟩, rfl, rfl⟩ := hc
      refine ⟨[[105, 110, 106, 101, 99, 116], devS x0 x1, hexS l], by simp [joinB], ?_, by simp, ?_⟩
      · intro w hw
        simp only [List.mem_cons, List.not_mem_nil, or_false] at hw
        rcases hw with rfl | rfl | rfl
        · exact ⟨by decide, by decide⟩
        · exact dev_ok _ _
        · exact hex_ok _
      · rw [one_at 9 (by decide) 10 _ _ _ rfl rfl, fs_db 10 x0 x1 l h0 h1 ]
        rfl
    · rw [if_neg hc] at hne
      exact absurd rfl hne
  · rw [show lineM (Int.toNat 11) x0 x1 x2 x3 x4 x5 l = _ from line11 x0 x1 x2 x3 x4 x5 l] at hne ⊢
    by_cases hc : (x2 = 0 ∧ x3 = 0) ∧ x4 = 0 ∧ x5 = 0 ∧ l.length = 0
    · rw [if_pos hc]
      obtain ⟨⟨rfl, rfl⟩, rfl, rfl, hl⟩ := hc
      obtain rfl := List.eq_nil_of_length_eq_zero hl
      refine ⟨[[99, 114, 101, 97, 116, 101], devS x0 x1], by simp [joinB], ?_, by simp, ?_⟩
      · intro w hw
        simp only [List.mem_cons, List.not_mem_nil, or_false] at hw
        rcases hw with rfl | rfl
        · exact ⟨by decide, by decide⟩
        · exact dev_ok _ _
      · rw [one_at 10 (by decide) 11 _ _ _ rfl rfl, fs_d 11 x0 x1 h0 h1]
        rfl
    · rw [if_neg hc] at hne
      exact absurd rfl hne
  · rw [show lineM (Int.toNat 12) x0 x1 x2 x3 x4 x5 l = _ from line12 x0 x1 x2 x3 x4 x5 l] at hne ⊢
    by_cases hc : x4 = 0 ∧ x5 = 0 ∧ l.length = 0
    · rw [if_pos hc]
      obtain ⟨rfl, rfl, hl⟩ := hc
      obtain rfl := List.eq_nil_of_length_eq_zero hl
      refine ⟨[[97, 100, 100], devS x0 x1, devS x2 x3], by simp [joinB], ?_, by simp, ?_⟩
      · intro w hw
        simp only [List.mem_cons, List.not_mem_nil, or_false] at hw
        rcases hw with rfl | rfl | rfl
        · exact ⟨by decide, by decide⟩
        · exact dev_ok _ _
        · exact dev_ok _ _
      · rw [one_at 11 (by decide) 12 _ _ _ rfl rfl, fs_dp 12 x0 x1 x2 x3 h0 h1 h2 h3]
        rfl
    · rw [if_neg hc] at hne
      exact absurd rfl hne
  · rw [show lineM (Int.toNat 13) x0 x1 x2 x3 x4 x5 l = _ from line13 x0 x1 x2 x3 x4 x5 l] at hne ⊢
    by_cases hc : x4 = 0 ∧ x5 = 0 ∧ l.length = 0
    · rw [if_pos hc]
      obtain ⟨rfl, rfl, hl⟩ := hc
      obtain rfl := List.eq_nil_of_length_eq_zero hl
      refine ⟨[[107, 105, 99, 107], devS x0 x1, devS x2 x3], by simp [joinB], ?_, by simp, ?_⟩
      · intro w hw
        simp only [List.mem_cons, List.not_mem_nil, or_false] at hw
        rcases hw with rfl | rfl | rfl
        · exact ⟨by decide, by decide⟩
        · exact dev_ok _ _
        · exact dev_ok _ _
      · rw [one_at 12 (by decide) 13 _ _ _ rfl rfl, fs_dp 13 x0 x1 x2 x3 h0 h1 h2 h3]
        rfl
    · rw [if_neg hc] at hne
      exact absurd rfl hne
  · rw [show lineM (Int.toNat 14) x0 x1 x2 x3 x4 x5 l = _ from line14 x0 x1 x2 x3 x4 x5 l] at hne ⊢
    by_cases hc : (x2 = 0 ∧ x3 = 0) ∧ x4 = 0 ∧ x5 = 0 ∧ l.length = 0
    · rw [if_pos hc]
      obtain ⟨⟨rfl, rfl⟩, rfl, rfl, hl⟩ := hc
      obtain rfl := List.eq_nil_of_length_eq_zero hl
      refine ⟨[[108, 101, 97, 118, 101], devS x0 x1], by simp [joinB], ?_, by simp, ?_⟩
      · intro w hw
        simp only [List.mem_cons, List.not_mem_nil, or_false] at hw
        rcases hw with rfl | rfl
        · exact ⟨by decide, by decide⟩
        · exact dev_ok _ _
      · rw [one_at 13 (by decide) 14 _ _ _ rfl rfl, fs_d 14 x0 x1 h0 h1]
        rfl
    · rw [if_neg hc] at hne
      exact absurd rfl hne
  · rw [show lineM (Int.toNat 15) x0 x1 x2 x3 x4 x5 l = _ from line15 x0 x1 x2 x3 x4 x5 l] at hne ⊢
    by_cases hc : (x2 = 0 ∧ x3 = 0) ∧ x4 = 0 ∧ x5 = 0
    · rw [if_pos hc]
      obtain ⟨⟨rfl, rfl⟩, rfl, rfl⟩ := hc
      refine ⟨[[102, 114, 97, 109, 101], devS x0 x1, hexS l], by simp [joinB], ?_, by simp, ?_⟩
      · intro w hw
        simp only [List.mem_cons, List.not_mem_nil, or_false] at hw
        rcases hw with rfl | rfl | rfl
        · exact ⟨by decide, by decide⟩
        · exact dev_ok _ _
        · exact hex_ok _
      · rw [one_at 14 (by decide) 15 _ _ _ rfl rfl, fs_db 15 x0 x1 l h0 h1 ]
        rfl
    · rw [if_neg hc] at hne
      exact absurd rfl hne
theorem read_line (ws : List (List UInt8)) (m : Su.Mv) (h : oneR ws = .inr m) : MvR m ∧ lineOf m = joinB ws ∧ lineOf m ≠ [] := by
  obtain ⟨x, hx, hw, hl, hf⟩ := one_inv formsL ws m h
  rcases ws with _ | ⟨w, ws⟩
  · simp at hl
    omega
  rw [List.getD_cons_zero] at hw
  rw [List.tail_cons] at hf
  rw [List.length_cons] at hl
  unfold formsL at hx
  simp only [List.mem_cons, List.not_mem_nil, or_false] at hx
  rcases hx with rfl | rfl | rfl | rfl | rfl | rfl | rfl | rfl | rfl | rfl | rfl | rfl | rfl | rfl | rfl
  · simp only [List.length_cons, List.length_nil] at hl hf hw
    subst hw
    rcases ws with _ | ⟨a, _ | ⟨b, _ | ⟨c, ws⟩⟩⟩
    · simp at hl
    · simp at hl
    rotate_left
    · simp at hl <;> omega
    obtain ⟨x0, x1, x4, ⟨h0, h1, h4⟩, rfl, rfl, rfl⟩ := bk_dn 1 a b m hf
    refine ⟨by constructor <;> simp only <;> omega, ?_⟩
    rw [show lineOf ⟨1, x0, x1, 0, 0, x4, 0, []⟩ = _ from line1 x0 x1 0 0 x4 0 [], if_pos (by simp)]
    exact ⟨by simp [joinB], by simp⟩
  · simp only [List.length_cons, List.length_nil] at hl hf hw
    subst hw
    rcases ws with _ | ⟨a, _ | ⟨b, ws⟩⟩
    · simp at hl
    rotate_left
    · simp at hl <;> omega
    obtain ⟨x0, x1, ⟨h0, h1⟩, rfl, rfl⟩ := bk_d 2 a m hf
    refine ⟨by constructor <;> simp only <;> omega, ?_⟩
    rw [show lineOf ⟨2, x0, x1, 0, 0, 0, 0, []⟩ = _ from line2 x0 x1 0 0 0 0 [], if_pos (by simp)]
    exact ⟨by simp [joinB], by simp⟩
  · simp only [List.length_cons, List.length_nil] at hl hf hw
    subst hw
    rcases ws with _ | ⟨a, _ | ⟨b, ws⟩⟩
    · simp at hl
    rotate_left
    · simp at hl <;> omega
    obtain ⟨x0, x1, ⟨h0, h1⟩, rfl, rfl⟩ := bk_d 3 a m hf
    refine ⟨by constructor <;> simp only <;> omega, ?_⟩
    rw [show lineOf ⟨3, x0, x1, 0, 0, 0, 0, []⟩ = _ from line3 x0 x1 0 0 0 0 [], if_pos (by simp)]
    exact ⟨by simp [joinB], by simp⟩
  · simp only [List.length_cons, List.length_nil] at hl hf hw
    subst hw
    rcases ws with _ | ⟨a, _ | ⟨b, ws⟩⟩
    · simp at hl
    rotate_left
    · simp at hl <;> omega
    obtain ⟨x0, x1, ⟨h0, h1⟩, rfl, rfl⟩ := bk_d 4 a m hf
    refine ⟨by constructor <;> simp only <;> omega, ?_⟩
    rw [show lineOf ⟨4, x0, x1, 0, 0, 0, 0, []⟩ = _ from line4 x0 x1 0 0 0 0 [], if_pos (by simp)]
    exact ⟨by simp [joinB], by simp⟩
  · simp only [List.length_cons, List.length_nil] at hl hf hw
    subst hw
    rcases ws with _ | ⟨a, _ | ⟨b, ws⟩⟩
    · simp at hl
    rotate_left
    · simp at hl <;> omega
    obtain ⟨x4, h4, rfl, rfl⟩ := bk_n 5 a m hf
    refine ⟨by constructor <;> simp only <;> omega, ?_⟩
    rw [show lineOf ⟨5, 0, 0, 0, 0, x4, 0, []⟩ = _ from line5 0 0 0 0 x4 0 [], if_pos (by simp)]
    exact ⟨by simp [joinB], by simp⟩
  · simp only [List.length_cons, List.length_nil] at hl hf hw
    subst hw
    rcases ws with _ | ⟨a, _ | ⟨b, ws⟩⟩
    · simp at hl
    rotate_left
    · simp at hl <;> omega
    obtain ⟨x4, h4, rfl, rfl⟩ := bk_n 6 a m hf
    refine ⟨by constructor <;> simp only <;> omega, ?_⟩
    rw [show lineOf ⟨6, 0, 0, 0, 0, x4, 0, []⟩ = _ from line6 0 0 0 0 x4 0 [], if_pos (by simp)]
    exact ⟨by simp [joinB], by simp⟩
  · simp only [List.length_cons, List.length_nil] at hl hf hw
    subst hw
    rcases ws with _ | ⟨a, _ | ⟨b, ws⟩⟩
    · simp at hl
    rotate_left
    · simp at hl <;> omega
    obtain ⟨x4, h4, rfl, rfl⟩ := bk_n 7 a m hf
    refine ⟨by constructor <;> simp only <;> omega, ?_⟩
    rw [show lineOf ⟨7, 0, 0, 0, 0, x4, 0, []⟩ = _ from line7 0 0 0 0 x4 0 [], if_pos (by simp)]
    exact ⟨by simp [joinB], by simp⟩
  · simp only [List.length_cons, List.length_nil] at hl hf hw
    subst hw
    rcases ws with _ | ⟨a, _ | ⟨b, ws⟩⟩
    · simp at hl
    rotate_left
    · simp at hl <;> omega
    obtain ⟨x4, h4, rfl, rfl⟩ := bk_n 8 a m hf
    refine ⟨by constructor <;> simp only <;> omega, ?_⟩
    rw [show lineOf ⟨8, 0, 0, 0, 0, x4, 0, []⟩ = _ from line8 0 0 0 0 x4 0 [], if_pos (by simp)]
    exact ⟨by simp [joinB], by simp⟩
  · simp only [List.length_cons, List.length_nil] at hl hf hw
    subst hw
    rcases ws with _ | ⟨a, _ | ⟨b, _ | ⟨c, ws⟩⟩⟩
    · simp at hl
    · simp at hl
    rotate_left
    · simp at hl <;> omega
    obtain ⟨x4, x5, ⟨h4, h5⟩, rfl, rfl, rfl⟩ := bk_nc 9 a b m hf
    refine ⟨by constructor <;> simp only <;> omega, ?_⟩
    rw [show lineOf ⟨9, 0, 0, 0, 0, x4, x5, []⟩ = _ from line9 0 0 0 0 x4 x5 [], if_pos (by simp)]
    exact ⟨by simp [joinB], by simp⟩
  · simp only [List.length_cons, List.length_nil] at hl hf hw
    subst hw
    rcases ws with _ | ⟨a, _ | ⟨b, _ | ⟨c, ws⟩⟩⟩
    · simp at hl
    · simp at hl
    rotate_left
    · simp at hl <;> omega
    obtain ⟨x0, x1, l, ⟨h0, h1, _⟩, rfl, rfl, rfl⟩ := bk_db 10 a b m hf
    refine ⟨by constructor <;> simp only <;> omega, ?_⟩
    rw [show lineOf ⟨10, x0, x1, 0, 0, 0, 0, l⟩ = _ from line10 x0 x1 0 0 0 0 l, if_pos (by simp)]
    exact ⟨by simp [joinB], by simp⟩
  · simp only [List.length_cons, List.length_nil] at hl hf hw
    subst hw
    rcases ws with _ | ⟨a, _ | ⟨b, ws⟩⟩
    · simp at hl
    rotate_left
    · simp at hl <;> omega
    obtain ⟨x0, x1, ⟨h0, h1⟩, rfl, rfl⟩ := bk_d 11 a m hf
    refine ⟨by constructor <;> simp only <;> omega, ?_⟩
    rw [show lineOf ⟨11, x0, x1, 0, 0, 0, 0, []⟩ = _ from line11 x0 x1 0 0 0 0 [], if_pos (by simp)]
    exact ⟨by simp [joinB], by simp⟩
  · simp only [List.length_cons, List.length_nil] at hl hf hw
    subst hw
    rcases ws with _ | ⟨a, _ | ⟨b, _ | ⟨c, ws⟩⟩⟩
    · simp at hl
    · simp at hl
    rotate_left
    · simp at hl <;> omega
    obtain ⟨x0, x1, x2, x3, ⟨h0, h1, h2, h3⟩, rfl, rfl, rfl⟩ := bk_dp 12 a b m hf
    refine ⟨by constructor <;> simp only <;> omega, ?_⟩
    rw [show lineOf ⟨12, x0, x1, x2, x3, 0, 0, []⟩ = _ from line12 x0 x1 x2 x3 0 0 [], if_pos (by simp)]
    exact ⟨by simp [joinB], by simp⟩
  · simp only [List.length_cons, List.length_nil] at hl hf hw
    subst hw
    rcases ws with _ | ⟨a, _ | ⟨b, _ | ⟨c, ws⟩⟩⟩
    · simp at hl
    · simp at hl
    rotate_left
    · simp at hl <;> omega
    obtain ⟨x0, x1, x2, x3, ⟨h0, h1, h2, h3⟩, rfl, rfl, rfl⟩ := bk_dp 13 a b m hf
    refine ⟨by constructor <;> simp only <;> omega, ?_⟩
    rw [show lineOf ⟨13, x0, x1, x2, x3, 0, 0, []⟩ = _ from line13 x0 x1 x2 x3 0 0 [], if_pos (by simp)]
    exact ⟨by simp [joinB], by simp⟩
  · simp only [List.length_cons, List.length_nil] at hl hf hw
    subst hw
    rcases ws with _ | ⟨a, _ | ⟨b, ws⟩⟩
    · simp at hl
    rotate_left
    · simp at hl <;> omega
    obtain ⟨x0, x1, ⟨h0, h1⟩, rfl, rfl⟩ := bk_d 14 a m hf
    refine ⟨by constructor <;> simp only <;> omega, ?_⟩
    rw [show lineOf ⟨14, x0, x1, 0, 0, 0, 0, []⟩ = _ from line14 x0 x1 0 0 0 0 [], if_pos (by simp)]
    exact ⟨by simp [joinB], by simp⟩
  · simp only [List.length_cons, List.length_nil] at hl hf hw
    subst hw
    rcases ws with _ | ⟨a, _ | ⟨b, _ | ⟨c, ws⟩⟩⟩
    · simp at hl
    · simp at hl
    rotate_left
    · simp at hl <;> omega
    obtain ⟨x0, x1, l, ⟨h0, h1, _⟩, rfl, rfl, rfl⟩ := bk_db 15 a b m hf
    refine ⟨by constructor <;> simp only <;> omega, ?_⟩
    rw [show lineOf ⟨15, x0, x1, 0, 0, 0, 0, l⟩ = _ from line15 x0 x1 0 0 0 0 l, if_pos (by simp)]
    exact ⟨by simp [joinB], by simp⟩
end Go.RX.Bk

namespace Go.RX.Sy
open Go.RX Go.Proofs
noncomputable def cx : Ctx := { T := TT, FT := FT, loops := loops, callees := callees }
set_option maxRecDepth 100000
noncomputable def fm_rows : F := runF cx 9 ([SV.vv 0, SV.vv 1]) ([Ck.abs 0, Ck.abs 1, Ck.sli true 0 36 8 (E.var 0) [{ ck := CK.int (Go.IntKind.u8), w := 1, a := E.avar 0 }, { ck := CK.int (Go.IntKind.u8), w := 1, a := E.avar 1 }, { ck := CK.int (Go.IntKind.u8), w := 1, a := E.avar 2 }, { ck := CK.int (Go.IntKind.u8), w := 1, a := E.avar 3 }, { ck := CK.int (Go.IntKind.u8), w := 1, a := E.avar 4 }, { ck := CK.int (Go.IntKind.i64), w := 1, a := E.avar 5 }, { ck := CK.int (Go.IntKind.u64), w := 1, a := E.avar 6 }, { ck := CK.cv, w := 1, a := E.avar 7 }], Ck.sli true 1 36 8 (E.var 1) [{ ck := CK.int (Go.IntKind.u8), w := 1, a := E.avar 8 }, { ck := CK.int (Go.IntKind.u8), w := 1, a := E.avar 9 }, { ck := CK.int (Go.IntKind.u8), w := 1, a := E.avar 10 }, { ck := CK.int (Go.IntKind.u8), w := 1, a := E.avar 11 }, { ck := CK.int (Go.IntKind.u8), w := 1, a := E.avar 12 }, { ck := CK.int (Go.IntKind.i64), w := 1, a := E.avar 13 }, { ck := CK.int (Go.IntKind.u64), w := 1, a := E.avar 14 }, { ck := CK.cv, w := 1, a := E.avar 15 }]]) ({ b := 0, v := 2, i := 2, a := 16, bo := 0, p := 2, r := 0 }) Tryd.f9
def st_rows (P : Program) (Post : Value → List HP → Prop) (x0 : Int) (x1 : Int) (A0 : Nat → Int) (A1 : Nat → Int) (A2 : Nat → Int) (A3 : Nat → Int) (A4 : Nat → Int) (A5 : Nat → Int) (A6 : Nat → Int) (A7 : Nat → Int) (A8 : Nat → Int) (A9 : Nat → Int) (A10 : Nat → Int) (A11 : Nat → Int) (A12 : Nat → Int) (A13 : Nat → Int) (A14 : Nat → Int) (A15 : Nat → Int) (v0 : V1) (v1 : V1) (p0 : HP) (p1 : HP) : Prop :=
 Need (0 ≤ x0) (
 Need (0 ≤ x1) (
 ∃ (I0x0 : Ext → Prop) (m0x0 : Ext → Nat), (∃ x2 : Int, ∃ q0 : Bool, x2 = 0 ∧ q0 = (x0 == x1) ∧ I0x0 ⟨[], [], [x2], [], [q0], [], []⟩) ∧
 ∀ x2 : Int, ∀ q0 : Bool, I0x0 ⟨[], [], [x2], [], [q0], [], []⟩ →
 Need (0 ≤ x0) (
 Fork ((x2 < x0) ∧ (q0 = true)) (
 Need (0 ≤ x2) (
 Need (x2 < x0) (
 Need (x2 < x1) (
 ∃ post, Meets P 11 [.agg #[.int .u8 (A0 (Int.toNat x2)), .int .u8 (A1 (Int.toNat x2)), .int .u8 (A2 (Int.toNat x2)), .int .u8 (A3 (Int.toNat x2)), .int .u8 (A4 (Int.toNat x2)), .int .i64 (A5 (Int.toNat x2)), .int .u64 (A6 (Int.toNat x2)), (bslV (A7 (Int.toNat x2)))], .agg #[.int .u8 (A8 (Int.toNat x2)), .int .u8 (A9 (Int.toNat x2)), .int .u8 (A10 (Int.toNat x2)), .int .u8 (A11 (Int.toNat x2)), .int .u8 (A12 (Int.toNat x2)), .int .i64 (A13 (Int.toNat x2)), .int .u64 (A14 (Int.toNat x2)), (bslV (A15 (Int.toNat x2)))]] [p0, p1] post ∧
 ∀ x hs, post x hs → ∃ q1 : Bool, x = .bool q1 ∧ hs = [p0, p1] ∧
 Need ((-9223372036854775808) ≤ (x2 + 1)) (
 Need ((x2 + 1) ≤ 9223372036854775807) (
 ∃ x2' : Int, ∃ q0' : Bool, x2' = (x2 + 1) ∧ q0' = q1 ∧ I0x0 ⟨[], [], [x2'], [], [q0'], [], []⟩ ∧ m0x0 ⟨[], [], [x2'], [], [q0'], [], []⟩ < m0x0 ⟨[], [], [x2], [], [q0], [], []⟩)))))) (
 Post (.bool q0) [p0, p1, sliHP true 36 8 v0.v (Int.toNat x0) (tabL (Int.toNat x0) [colI .u8 1 A0, colI .u8 1 A1, colI .u8 1 A2, colI .u8 1 A3, colI .u8 1 A4, colI .i64 1 A5, colI .u64 1 A6, colV 1 (fun j => bslV (A7 j))]), sliHP true 36 8 v1.v (Int.toNat x1) (tabL (Int.toNat x1) [colI .u8 1 A8, colI .u8 1 A9, colI .u8 1 A10, colI .u8 1 A11, colI .u8 1 A12, colI .i64 1 A13, colI .u64 1 A14, colV 1 (fun j => bslV (A15 j))])]))))
theorem vc_rows (P : Program) (Post : Value → List HP → Prop) (x0 : Int) (x1 : Int) (A0 : Nat → Int) (A1 : Nat → Int) (A2 : Nat → Int) (A3 : Nat → Int) (A4 : Nat → Int) (A5 : Nat → Int) (A6 : Nat → Int) (A7 : Nat → Int) (A8 : Nat → Int) (A9 : Nat → Int) (A10 : Nat → Int) (A11 : Nat → Int) (A12 : Nat → Int) (A13 : Nat → Int) (A14 : Nat → Int) (A15 : Nat → Int) (v0 : V1) (v1 : V1) (p0 : HP) (p1 : HP) (L : Nat → LC) : VC P (fun v hs => Post v (hs.take 4)) fm_rows { iv := [x0, x1], av := [A0, A1, A2, A3, A4, A5, A6, A7, A8, A9, A10, A11, A12, A13, A14, A15], bo := [], bv := [], vv := [v0, v1], pv := [p0, p1] } L = st_rows P Post x0 x1 A0 A1 A2 A3 A4 A5 A6 A7 A8 A9 A10 A11 A12 A13 A14 A15 v0 v1 p0 p1 := by kernel_rfl
theorem run_rows : runF cx 9 ([SV.vv 0, SV.vv 1]) ([Ck.abs 0, Ck.abs 1, Ck.sli true 0 36 8 (E.var 0) [{ ck := CK.int (Go.IntKind.u8), w := 1, a := E.avar 0 }, { ck := CK.int (Go.IntKind.u8), w := 1, a := E.avar 1 }, { ck := CK.int (Go.IntKind.u8), w := 1, a := E.avar 2 }, { ck := CK.int (Go.IntKind.u8), w := 1, a := E.avar 3 }, { ck := CK.int (Go.IntKind.u8), w := 1, a := E.avar 4 }, { ck := CK.int (Go.IntKind.i64), w := 1, a := E.avar 5 }, { ck := CK.int (Go.IntKind.u64), w := 1, a := E.avar 6 }, { ck := CK.cv, w := 1, a := E.avar 7 }], Ck.sli true 1 36 8 (E.var 1) [{ ck := CK.int (Go.IntKind.u8), w := 1, a := E.avar 8 }, { ck := CK.int (Go.IntKind.u8), w := 1, a := E.avar 9 }, { ck := CK.int (Go.IntKind.u8), w := 1, a := E.avar 10 }, { ck := CK.int (Go.IntKind.u8), w := 1, a := E.avar 11 }, { ck := CK.int (Go.IntKind.u8), w := 1, a := E.avar 12 }, { ck := CK.int (Go.IntKind.i64), w := 1, a := E.avar 13 }, { ck := CK.int (Go.IntKind.u64), w := 1, a := E.avar 14 }, { ck := CK.cv, w := 1, a := E.avar 15 }]]) ({ b := 0, v := 2, i := 2, a := 16, bo := 0, p := 2, r := 0 }) Tryd.f9 = fm_rows := rfl
end Go.RX.Sy
