/- What is printed is read az it was, plainly: texts. · ScriptBack: the law over what is laid. (Written for seat .D.) · What a row says of the library's variables, az the contracts ask it; the wrap of a row with the world's shape kept. -/
import Derived.Test.YtgaabcinjbjbgaaDoorM40
import Derived.Test.YtgaabcinjbjbgaaDoorM35
import Derived.Test.YtgaabcinjbjbgaaDoorM48
import Derived.Test.YtgaabcinjbjbgaaDoorM37
import Derived.Test.YtgaabcinjbjbgaaDoorM41
import Derived.Test.YtgaabcinjbjbgaaDoorM29
import Derived.Test.YtgaabcinjbjbgaaDoorRows
import Derived.Handed
import Derived.SizedLaws
import Derived.Lib.LaidU8
import Derived.Shelf.Vars
import Derived.LaidLaws

namespace Go.RX.Bk
open Go Go.RX Go.Proofs Go.RX.Ln Go.RX.Sv Go.RX.Sw Go.RX.Sq
def textOf (ms : List Su.Mv) : List UInt8 := ms.flatMap fun m => lineOf m ++ [10]
def num : Int → List Su.Mv → List (Su.Mv × Int)
  | _, [] => []
  | n, m :: r => (m, n) :: num (n + 1) r
theorem num_len : ∀ (ms : List Su.Mv) (n : Int), (num n ms).length = ms.length
  | [], _ => rfl
  | m :: r, n => by rw [num, List.length_cons, List.length_cons, num_len r]
theorem num_fst : ∀ (ms : List Su.Mv) (n : Int), (num n ms).map Prod.fst = ms
  | [], _ => rfl
  | m :: r, n => by rw [num, List.map_cons, num_fst r]
theorem num_at : ∀ (ms : List Su.Mv) (n : Int) (j : Nat) (hj : j < ms.length), (num n ms)[j]? = some (ms[j]'hj, n + j)
  | m :: r, n, 0, _ => by simp [num]
  | m :: r, n, j + 1, hj => by
    rw [num, List.getElem?_cons_succ, num_at r (n + 1) j (by simpa using hj)]
    simp
    omega
def Pr (m : Su.Mv) : Prop := MvR m ∧ lineOf m ≠ []
theorem pr_ok : ∀ (ls : List (List UInt8)) (i : Nat) (acc t : List UInt8), prG i acc ls = (t, 0) → i ≤ 1000 → acc.length ≤ 262144 → t = acc ++ ls.flatMap (· ++ [10]) ∧ i + ls.length ≤ 1000 ∧ t.length ≤ 262144 ∧ ∀ s ∈ ls, s ≠ []
  | [], i, acc, t, h, hi, ha => by
    rw [prG] at h
    cases h
    exact ⟨by simp, by simpa using hi, ha, fun s hs => by simp at hs⟩
  | s :: r, i, acc, t, h, hi, ha => by
    rw [prG] at h
    split at h
    · cases h
    · split at h
      · cases h
      · split at h
        · cases h
        · rename_i h1 h2 h3
          obtain ⟨e, hl, ht, hr⟩ := pr_ok r (i + 1) _ t h (by omega) (by simp; omega)
          refine ⟨by rw [e]; simp, by rw [List.length_cons]; omega, ht, fun x hx => ?_⟩
          rw [List.mem_cons] at hx
          rcases hx with rfl | hx
          · exact h2
          · exact hr x hx
theorem pr_fits : ∀ (ls : List (List UInt8)) (i : Nat) (acc : List UInt8), (∀ s ∈ ls, s ≠ []) → i + ls.length ≤ 1000 → acc.length + (ls.flatMap (· ++ [10])).length ≤ 262144 → prG i acc ls = (acc ++ ls.flatMap (· ++ [10]), 0)
  | [], i, acc, _, _, _ => by simp [prG]
  | s :: r, i, acc, hs, hi, ha => by
    simp only [List.flatMap_cons, List.length_append, List.length_cons, List.length_nil] at ha hi
    rw [prG, if_neg (by omega), if_neg (hs s (by simp)), if_neg (by omega), pr_fits r (i + 1) _ (fun x hx => hs x (by simp [hx])) (by omega) (by simp only [List.length_append, List.length_cons, List.length_nil]; omega)]
    simp
theorem text_map (ms : List Su.Mv) : (ms.map lineOf).flatMap (· ++ [10]) = textOf ms := by
  unfold textOf
  rw [List.flatMap_map]
theorem go_print : ∀ (ms : List Su.Mv) (n : Int) (acc : List (Su.Mv × Int)) (tail : List UInt8), (∀ m ∈ ms, Pr m) → acc.length + ms.length ≤ 1000 →
    goR (splitL 10 (textOf ms ++ tail)) n acc = goR (splitL 10 tail) (n + ms.length) (acc ++ num n ms)
  | [], n, acc, tail, _, _ => by simp [textOf, num]
  | m :: r, n, acc, tail, h, hl => by
    obtain ⟨hr, hne⟩ := h m (by simp)
    obtain ⟨ws, e, hok, hws, ho⟩ := line_read m hr hne
    have e10 : (10 : UInt8) ∉ lineOf m := by rw [e]; exact join_no10 ws hok
    have hw : Su.wordsR (lineOf m) = ws := by rw [e]; exact words_join ws hok
    rw [List.length_cons] at hl
    have ih := go_print r (n + 1) (acc ++ [(m, n)]) tail (fun x hx => h x (by simp [hx])) (by rw [List.length_append, List.length_singleton]; omega)
    have es : textOf (m :: r) ++ tail = lineOf m ++ 10 :: (textOf r ++ tail) := by simp [textOf]
    rw [es, splitL_app 10 _ _ e10, goR, hw, if_neg hws, ho]
    simp only
    rw [if_neg (by omega), ih, num]
    simp
    congr 1
    omega
theorem read_text (ms : List Su.Mv) (h : ∀ m ∈ ms, Pr m) (hl : ms.length ≤ 1000) (ht : (textOf ms).length ≤ 262144) : preadR (textOf ms) = (num 1 ms, 0, 0) := by
  unfold preadR
  rw [if_neg (by omega)]
  have := go_print ms 1 [] [] h (by simpa using hl)
  rw [List.append_nil] at this
  show goR (splitL 10 (textOf ms)) 1 [] = _
  rw [this]
  rfl
def remA : List UInt8 := [35, 32, 97, 32, 114, 101, 109, 97, 114, 107, 10]
def remB : List UInt8 := [32, 32, 35, 32, 97, 110, 100, 32, 97, 110, 111, 116, 104, 101, 114]
theorem read_remarks (ms : List Su.Mv) (h : ∀ m ∈ ms, Pr m) (hl : ms.length ≤ 1000) : readR (remA ++ textOf ms ++ remB) = (num 2 ms, 0, 0) := by
  have es : remA ++ textOf ms ++ remB = [35, 32, 97, 32, 114, 101, 109, 97, 114, 107] ++ 10 :: (textOf ms ++ remB) := by simp [remA]
  show goR (splitL 10 _) 1 [] = _
  rw [es, splitL_app 10 _ _ (by decide), goR, if_pos (by rfl), go_print ms (1 + 1) [] remB h (by simpa using hl), splitL_one 10 remB (by decide), goR, if_pos (by rfl), goR]
  rfl
theorem unhex_len (l b : List UInt8) (h : Su.unhexR l = some b) : b.length ≤ l.length := by
  rw [(unhex_iff l b).1 h, hexS_R]
  split
  · rename_i e
    rw [e]
    simp
  · rw [hexR_len]
    omega
theorem field_b (N : Nat) (f : UInt8) (m m' : Su.Mv) (s : List UInt8) (h : Su.fieldR f m s = some m') (hm : m.b.length ≤ N) (hs : s.length ≤ N) : m'.b.length ≤ N := by
  unfold Su.fieldR at h
  split at h
  · obtain ⟨p, _, rfl⟩ := Option.map_eq_some_iff.1 h
    exact hm
  · split at h
    · obtain ⟨p, _, rfl⟩ := Option.map_eq_some_iff.1 h
      exact hm
    · split at h
      · obtain ⟨p, _, rfl⟩ := Option.map_eq_some_iff.1 h
        exact hm
      · split at h
        · obtain ⟨p, _, rfl⟩ := Option.map_eq_some_iff.1 h
          exact hm
        · obtain ⟨p, hp, rfl⟩ := Option.map_eq_some_iff.1 h
          exact Nat.le_trans (unhex_len s p hp) hs
theorem fields_b (N : Nat) : ∀ (fs : List UInt8) (ws : List (List UInt8)) (m m' : Su.Mv), Su.fieldsR fs ws m = some m' → m.b.length ≤ N → (∀ w ∈ ws, w.length ≤ N) → m'.b.length ≤ N
  | [], ws, m, m', h, hm, _ => by
    rw [Su.fieldsR, Option.some.injEq] at h
    rw [← h]
    exact hm
  | f :: fs, ws, m, m', h, hm, hw => by
    rw [Su.fieldsR] at h
    split at h
    · cases h
    · rename_i m1 h1
      refine fields_b N fs ws.tail m1 m' h (field_b N f m m1 _ h1 hm ?_) fun w hw' => hw w (List.mem_of_mem_tail hw')
      cases ws with
      | nil => simp
      | cons w r => exact hw w (by simp)
theorem one_b (N : Nat) (ws : List (List UInt8)) (m : Su.Mv) (h : Su.oneR ws = .inr m) (hw : ∀ w ∈ ws, w.length ≤ N) : m.b.length ≤ N := by
  obtain ⟨x, _, _, _, hf⟩ := one_inv Su.formsL ws m h
  exact fields_b N x.2.2 ws.tail _ m hf (by simp [Su.Mv.z]) fun w hw' => hw w (List.mem_of_mem_tail hw')
def Rd (N : Nat) (m : Su.Mv) : Prop := Pr m ∧ m.b.length ≤ N
theorem go_read (N : Nat) : ∀ (ls : List (List UInt8)) (n : Int) (acc : List (Su.Mv × Int)), (∀ s ∈ ls, s.length ≤ N) → (∀ x ∈ acc, Rd N x.1) → ∀ x ∈ (goR ls n acc).1, Rd N x.1
  | [], _, acc, _, ha => ha
  | s :: r, n, acc, hs, ha => by
    rw [goR]
    split
    · exact go_read N r (n + 1) acc (fun x hx => hs x (by simp [hx])) ha
    · split
      · exact ha
      · rename_i m ho
        split
        · exact ha
        · refine go_read N r (n + 1) _ (fun x hx => hs x (by simp [hx])) fun x hx => ?_
          rw [List.mem_append, List.mem_singleton] at hx
          rcases hx with hx | rfl
          · exact ha x hx
          · have h1 := read_line _ m ho
            refine ⟨⟨h1.1, h1.2.2⟩, one_b N _ m ho fun w hw => ?_⟩
            have := wordsG_len s [] w hw
            have := hs s (by simp)
            simp at *
            omega
theorem go_text : ∀ (ls : List (List UInt8)) (n : Int) (acc : List (Su.Mv × Int)), (textOf ((goR ls n acc).1.map Prod.fst)).length ≤ (textOf (acc.map Prod.fst)).length + (ls.map fun s => s.length + 1).sum
  | [], _, acc => by simp [goR]
  | s :: r, n, acc => by
    rw [goR, List.map_cons, List.sum_cons]
    split
    · have := go_text r (n + 1) acc
      omega
    · split
      · simp only; omega
      · rename_i m ho
        split
        · simp only; omega
        · have := go_text r (n + 1) (acc ++ [(m, n)])
          have h1 := (read_line _ m ho).2.1
          have h2 := join_words s
          rw [← h1] at h2
          have e : (textOf ((acc ++ [(m, n)]).map Prod.fst)).length = (textOf (acc.map Prod.fst)).length + ((lineOf m).length + 1) := by simp [textOf]
          rw [e] at this
          omega
theorem split_sum (c : UInt8) : ∀ l : List UInt8, ((splitL c l).map fun s => s.length + 1).sum = l.length + 1
  | [] => by simp [splitL]
  | b :: r => by
    have ih := split_sum c r
    rw [splitL]
    split
    · rw [List.map_cons, List.sum_cons, ih]
      simp
      omega
    · have hne := splitL_ne c r
      rcases hs : splitL c r with _ | ⟨x, y⟩
      · exact absurd hs hne
      · rw [hs] at ih
        simp only [List.map_cons, List.sum_cons, List.length_cons] at ih ⊢
        omega
theorem mem_sum : ∀ (l : List Nat) (x : Nat), x ∈ l → x ≤ l.sum
  | y :: r, x, h => by
    rw [List.mem_cons] at h
    rw [List.sum_cons]
    rcases h with rfl | h
    · omega
    · have := mem_sum r x h
      omega
theorem split_mem (c : UInt8) : ∀ (l : List UInt8), ∀ s ∈ splitL c l, s.length ≤ l.length := by
  intro l s hs
  have h := split_sum c l
  have : s.length + 1 ≤ ((splitL c l).map fun s => s.length + 1).sum := mem_sum _ _ (List.mem_map.2 ⟨s, hs, rfl⟩)
  omega
theorem read_back (s : List UInt8) (hs : s.length ≤ 10000) : let xs := (readR s).1.map Prod.fst
    (∀ m ∈ xs, Rd 10000 m) ∧ xs.length ≤ 1000 ∧ prG 0 [] (xs.map lineOf) = (textOf xs, 0) ∧ preadR (textOf xs) = (num 1 xs, 0, 0) ∧ (textOf xs).length ≤ 262144 := by
  intro xs
  have h1 : ∀ m ∈ xs, Rd 10000 m := by
    intro m hm
    obtain ⟨x, hx, rfl⟩ := List.mem_map.1 hm
    exact go_read 10000 (splitL 10 s) 1 [] (fun y hy => by have := split_mem 10 s y hy; omega) (fun x hx => by simp at hx) x hx
  have h2 : xs.length ≤ 1000 := by
    rw [List.length_map]
    exact Tr.go_len (splitL 10 s) 1 [] (by simp)
  have h3 : (textOf xs).length ≤ 262144 := by
    have := go_text (splitL 10 s) 1 []
    rw [split_sum] at this
    have e : xs = (goR (splitL 10 s) 1 []).1.map Prod.fst := rfl
    rw [e]
    simp [textOf] at this ⊢
    omega
  refine ⟨h1, h2, ?_, read_text xs (fun m hm => (h1 m hm).1) h2 h3, h3⟩
  have := pr_fits (xs.map lineOf) 0 [] (fun y hy => by
    obtain ⟨m, hm, rfl⟩ := List.mem_map.1 hy
    exact (h1 m hm).1.2) (by simpa using h2) (by rw [text_map]; simpa using h3)
  rw [this, text_map, List.nil_append]
end Go.RX.Bk

namespace Go.RX.Bj
open Go Go.RX Go.Proofs Go.RX.Ln Go.RX.Sp Go.RX.Sv Go.RX.Sw Go.RX.Sx Go.RX.Sy Go.RX.Sq Go.RX.Tr Go.RX.Bk
variable {n0 : Nat} {w0 : World}
theorem tab_num {K : Su.BSet} {ms : List Su.Mv} {n : Int} {A1 A2 A3 A4 A5 A6 A7 A8 A9 : Nat → Int} (h : TabI K (num n ms) A1 A2 A3 A4 A5 A6 A7 A8 A9) : MvT K ms A1 A2 A3 A4 A5 A6 A7 A8 := by
  have := TabI.mv h
  rwa [num_fst] at this
theorem part_b (hL : Laid0 w0 n0) (s : List UInt8) (hs : s.length ≤ 10000) : st_partB Tryd.prog (fun v _ => v = .bool true) (rowS s) (keptHP n0 w0) (Su.setHP []) (Su.setHP []) := by
  unfold st_partB
  rw [strD_rowS]
  obtain ⟨h1, h2, h3, h4, h5⟩ := read_back s hs
  refine ⟨_, read_meets hL [] s (by omega), ?_⟩
  rw [show preadR s = readR s from if_neg (by omega)]
  rintro x hs ⟨v, K, xs, A1, A2, A3, A4, A5, A6, A7, A8, A9, hxs, hxs', rfl, hT, rfl⟩
  refine ⟨v, _, _, xs.length, A1, A2, A3, A4, A5, A6, A7, A8, Su.setHP K, rfl, by rw [Int.toNat_natCast]; rfl, ?_⟩
  refine ⟨fun he => ?_, fun he => ?_⟩
  · obtain rfl := hxs' he
    exact ⟨by omega, fun _ => rfl⟩
  · obtain rfl := hxs (Classical.not_not.1 he)
    simp only [Int.toNat_natCast]
    have hT' := TabI.mv hT
    generalize hms : (readR s).1.map Prod.fst = ms at h1 h2 h3 h4 h5 hT'
    have hml : (readR s).1.length = ms.length := by rw [← hms, List.length_map]
    rw [hml]
    intro b
    refine ⟨_, printK_meets hL K v ms A1 A2 A3 A4 A5 A6 A7 A8 hT' (fun m hm => ⟨(h1 m hm).1.1, by have := (h1 m hm).2; omega⟩) (by omega) b, ?_⟩
    rintro x hs' ⟨rfl, rfl⟩
    rw [h3]
    refine ⟨0, rowS (textOf ms), by unfold prV; rw [strV_row], rfl, ?_⟩
    rw [strD_rowS]
    refine ⟨_, read_meets hL [] (textOf ms) (by omega), ?_⟩
    rw [h4]
    rintro x hs' ⟨u, K2, ys, B1, B2, B3, B4, B5, B6, B7, B8, B9, hys, _, rfl, hT2, rfl⟩
    obtain rfl := hys rfl
    refine ⟨u, _, _, (num 1 ms).length, B1, B2, B3, B4, B5, B6, B7, B8, Su.setHP K2, rfl, by rw [Int.toNat_natCast]; rfl, ?_⟩
    refine ⟨fun _ => ?_, fun hc => absurd ⟨rfl, rfl⟩ hc⟩
    rw [Int.toNat_natCast, num_len]
    refine ⟨_, rows_meets K2 K u v ms ms B1 B2 B3 B4 B5 B6 B7 B8 A1 A2 A3 A4 A5 A6 A7 A8 (tab_num hT2) hT' (by omega), ?_⟩
    rintro x hs' ⟨rfl, rfl⟩
    exact ⟨true, by rw [sameL_refl], rfl, rfl⟩
theorem rem_text (t : List UInt8) : strD (catF (catF (rowLF [11, 35, 32, 97, 32, 114, 101, 109, 97, 114, 107, 10]) (rowS t)) (rowLF [15, 32, 32, 35, 32, 97, 110, 100, 32, 97, 110, 111, 116, 104, 101, 114])) = remA ++ t ++ remB :=
  (Sd.cat (Sd.cat (Sd.lit remA _ (lit_row _ _ remA rfl rfl)) (Sd.row t)) (Sd.lit remB _ (lit_row _ _ remB rfl rfl))).1
theorem loop_part (hL : Laid0 w0 n0) {M : Sq.Mv} (h : MvOk n0 w0 M) (hsml : Small M) (s : List UInt8) (hB : st_partB Tryd.prog (fun v _ => v = .bool true) (rowS s) (keptHP n0 w0) (Su.setHP []) (Su.setHP []))
    (t : List UInt8) (et : t = textOf (movesOf M)) (hPr : ∀ m ∈ movesOf M, Pr m) (hl1000 : M.n ≤ 1000) (hbig : ¬ 262144 < 11 + (t.length : Int) + 15) :
    st_loopB Tryd.prog (fun v _ => v = .bool true) M.n (M.A 0) (M.A 1) (M.A 2) (M.A 3) (M.A 4) (M.A 5) (M.A 6) (rowS s) (rowS t) M.V (keptHP n0 w0) (Su.setHP []) (Su.setHP []) (Su.setHP []) := by
  unfold st_loopB
  rw [rowS0]
  have hml := moves_len M
  have hat : ∀ (i : Nat) (hi : i < (movesOf M).length), (movesOf M)[i]'hi = moveOf M i := fun i hi => by simp [movesOf]
  have hrem : readR (remA ++ t ++ remB) = (num 2 (movesOf M), 0, 0) := by rw [et]; exact read_remarks _ hPr (by omega)
  have htxt := rem_text t
  generalize hAA : catF (catF (rowLF [11, 35, 32, 97, 32, 114, 101, 109, 97, 114, 107, 10]) (rowS t)) (rowLF [15, 32, 32, 35, 32, 97, 110, 100, 32, 97, 110, 111, 116, 104, 101, 114]) = AA at htxt
  have hA0 : AA 0 = 11 + t.length + 15 := by rw [← hAA]; rfl
  refine ⟨fun e => ∃ (K : Su.BSet) (xs : List (Su.Mv × Int)), e.p.getD 0 HP.emp = Su.setHP K ∧ e.i.getD 0 0 = xs.length ∧ e.i.getD 2 0 = xs.length ∧ xs.length ≤ 1000 ∧ 0 ≤ e.i.getD 1 0 ∧ 0 ≤ (e.a.getD 0 fun _ => 0) 0 ∧ e.i.getD 1 0 + (e.a.getD 0 fun _ => 0) 0 ≤ 262144 ∧
      goR (splitL 10 (strD (e.a.getD 0 fun _ => 0))) (e.i.getD 1 0 + 1) xs = (num 2 (movesOf M), 0, 0), fun e => ((e.a.getD 0 fun _ => 0) 0).toNat, ?_, ?_⟩
  · refine ⟨0, 0, 0, AA, Su.setHP [], rfl, rfl, rfl, rfl, rfl, ?_⟩
    refine ⟨[], [], rfl, rfl, rfl, by simp, by simp, ?_, ?_, ?_⟩
    all_goals simp only [List.getD_cons_zero, List.getD_cons_succ]
    · omega
    · omega
    · rw [htxt]; exact hrem
  rintro x7 x8 x9 A p ⟨K, xs, hp, hm, hm2, hx, hn0, hAz, hn1, hgo⟩
  simp only [List.getD_cons_zero, List.getD_cons_succ] at hp hm hm2 hn0 hAz hn1 hgo
  subst hp hm hm2
  have hAl := strD_length A
  have hpre := go_pre (splitL 10 (strD A)) (x8 + 1) xs
  rw [hgo] at hpre
  have hlen2 := hpre.length_le
  simp only [num_len] at hlen2
  -- the range's end, at all moves
  have hfin : ∀ (q r : Int), (xs, q, r) = (num 2 (movesOf M), (0 : Int), (0 : Int)) → Need (0 ≤ (M.n : Int)) (Need ((xs.length : Int) = M.n ∨ 0 ≤ (t.length : Int)) (Fork (¬ (xs.length : Int) = M.n ∧ (t.length : Int) < 262044) (Value.bool false = .bool true) (st_partB Tryd.prog (fun v _ => v = .bool true) (rowS s) (keptHP n0 w0) (Su.setHP []) (Su.setHP [])))) := fun q r hq => by
    have hxl : xs.length = M.n := by
      have := congrArg (fun z : RR => z.1.length) hq
      simp only [num_len] at this
      omega
    exact ⟨by omega, fun _ => ⟨by omega, fun _ => ⟨fun hc => absurd (by omega) hc.1, fun _ => hB⟩⟩⟩
  have hbad : ∀ (q z : Int), (xs, q, z) = (num 2 (movesOf M), (0 : Int), (0 : Int)) → z ≠ 0 → False := fun q z hq hz => hz (congrArg (fun z : RR => z.2.2) hq)
  refine ⟨_, index_meets (strD A) 10, ?_⟩
  rintro x hs' ⟨rfl, rfl⟩
  refine ⟨Lib.indexByte (strD A) 10, rfl, rfl, ?_⟩
  generalize hx3 : Lib.indexByte (strD A) 10 = x3
  refine ⟨fun h3 => ?_, fun h3 => ?_⟩
  · have hsp := splitL_end _ _ hx3.symm h3
    rw [hsp] at hgo
    simp only [goR] at hgo
    refine ⟨by omega, fun _ => ⟨by omega, fun _ => ?_⟩⟩
    have hsl : (strD A).length ≤ 500000 := by omega
    generalize strD A = l at hgo hsl ⊢
    refine words_step hL l (by omega) _ fun v2 => ?_
    simp only [Int.toNat_natCast]
    rw [Su.tab_strs _ _ fun j _ => Su.tabO_at (Su.wordsR l) j]
    refine ⟨fun hw => ?_, fun hw => ?_⟩
    · rw [if_pos (List.eq_nil_of_length_eq_zero (by omega))] at hgo
      exact hfin _ _ hgo
    · have hne : Su.wordsR l ≠ [] := fun e => hw (by rw [e]; rfl)
      rw [if_neg hne] at hgo
      refine ⟨_, St.pmove_meets hL K v2 (Su.wordsR l) (List.length_pos_iff.2 hne) (words_len l hsl), ?_⟩
      intro x hs' hq
      rcases ho : Su.oneR (Su.wordsR l) with z | mv
      · rw [ho] at hq hgo
        obtain ⟨rfl, rfl⟩ := hq
        have hz := oneG_err Su.formsL _ z ho
        exact (hbad _ _ hgo (by omega)).elim
      · rw [ho] at hq hgo
        obtain ⟨e, K', rfl, rfl, hG⟩ := hq
        obtain ⟨hH, hKK⟩ := Grow.has hG
        simp only at hgo
        refine ⟨mv.k, mv.d1, mv.d2, mv.p1, mv.p2, mv.n, mv.c, e, 0, Su.setHP K', rfl, rfl, fun b11 => ⟨fun hc => ?_, fun hc => ⟨fun h1 => absurd rfl h1, fun _ => ?_⟩⟩⟩
        · rw [if_pos (by omega)] at hgo
          exact (hbad _ _ hgo (by decide)).elim
        · rw [if_neg (by omega)] at hgo
          obtain ⟨hget, hlt⟩ := put_get (ls := []) (n := x8 + 1 + 1) (by simpa only [goR] using hgo)
          simp only [num_len] at hlt
          rw [num_at _ _ _ hlt] at hget
          have hmv : moveOf M xs.length = mv := by rw [← hat _ hlt]; exact congrArg Prod.fst (Option.some.inj hget)
          have hnn : 2 + (xs.length : Int) = x8 + 1 := congrArg Prod.snd (Option.some.inj hget)
          refine ⟨by omega, fun _ => ⟨by omega, fun _ b19 => ⟨by omega, fun _ => ⟨by omega, fun _ => ⟨by omega, fun _ => ⟨by omega, fun _ => ⟨by omega, fun _ => ⟨by omega, fun _ => ⟨by omega, fun _ => ⟨fun _ => ?_, fun hc => absurd (fun hh => by omega) hc⟩⟩⟩⟩⟩⟩⟩⟩⟩⟩
          refine ⟨_, sameV_meets mv e K' hH M xs.length (h.b xs.length (by omega)), ?_⟩
          rintro x hs' ⟨rfl, rfl⟩
          refine ⟨true, by rw [hmv, sameM_refl], rfl, fun hc => absurd rfl hc, fun _ => ⟨by omega, fun _ => ⟨by omega, fun _ => ?_⟩⟩⟩
          have hxl : xs.length + 1 = M.n := by
            have := congrArg (fun z : RR => z.1.length) hgo
            simp only [num_len, List.length_append, List.length_singleton] at this
            omega
          exact ⟨by omega, fun _ => ⟨fun hc => absurd (by omega) hc.1, fun _ => hB⟩⟩
  · obtain ⟨hlt3, hsp⟩ := splitL_at _ _ hx3.symm h3
    rw [hsp, ← strD_take A x3 (by omega), ← strD_drop A (x3 + 1) (by omega) (by omega)] at hgo
    simp only [goR] at hgo
    have hsl : (strD (updF A 0 x3)).length ≤ 500000 := by rw [strD_take A x3 (by omega), List.length_take]; omega
    refine ⟨by omega, fun _ => ⟨by omega, fun _ => ⟨by omega, fun _ => ⟨by omega, fun _ => ⟨by omega, fun _ => ⟨by omega, fun _ => ?_⟩⟩⟩⟩⟩⟩
    generalize strD (updF A 0 x3) = l at hgo hsl ⊢
    refine words_step hL l (by omega) _ fun v2 => ?_
    simp only [Int.toNat_natCast]
    rw [Su.tab_strs _ _ fun j _ => Su.tabO_at (Su.wordsR l) j]
    refine ⟨fun hw => ?_, fun hw => ?_⟩
    · rw [if_pos (List.eq_nil_of_length_eq_zero (by omega))] at hgo
      refine ⟨by omega, fun _ => ⟨by omega, fun _ => ⟨by omega, fun _ => ⟨by omega, fun _ => ?_⟩⟩⟩⟩
      refine ⟨xs.length, x8 + 1, xs.length, _, Su.setHP K, rfl, rfl, rfl, rfl, rfl, ⟨K, xs, rfl, rfl, rfl, hx, ?_, ?_, ?_, hgo⟩, ?_⟩
      all_goals simp only [List.getD_cons_zero, List.getD_cons_succ, updF, if_true]
      all_goals omega
    · have hne : Su.wordsR l ≠ [] := fun e => hw (by rw [e]; rfl)
      rw [if_neg hne] at hgo
      refine ⟨_, St.pmove_meets hL K v2 (Su.wordsR l) (List.length_pos_iff.2 hne) (words_len l hsl), ?_⟩
      intro x hs' hq
      rcases ho : Su.oneR (Su.wordsR l) with z | mv
      · rw [ho] at hq hgo
        obtain ⟨rfl, rfl⟩ := hq
        have hz := oneG_err Su.formsL _ z ho
        exact (hbad _ _ hgo (by omega)).elim
      · rw [ho] at hq hgo
        obtain ⟨e, K', rfl, rfl, hG⟩ := hq
        obtain ⟨hH, hKK⟩ := Grow.has hG
        simp only at hgo
        refine ⟨mv.k, mv.d1, mv.d2, mv.p1, mv.p2, mv.n, mv.c, e, 0, Su.setHP K', rfl, rfl, fun b11 => ⟨fun hc => ?_, fun hc => ⟨fun h1 => absurd rfl h1, fun _ => ?_⟩⟩⟩
        · rw [if_pos (by omega)] at hgo
          exact (hbad _ _ hgo (by decide)).elim
        · rw [if_neg (by omega)] at hgo
          obtain ⟨hget, hlt⟩ := put_get hgo
          simp only [num_len] at hlt
          rw [num_at _ _ _ hlt] at hget
          have hmv : moveOf M xs.length = mv := by rw [← hat _ hlt]; exact congrArg Prod.fst (Option.some.inj hget)
          have hnn : 2 + (xs.length : Int) = x8 + 1 := congrArg Prod.snd (Option.some.inj hget)
          refine ⟨by omega, fun _ => ⟨by omega, fun _ b19 => ⟨by omega, fun _ => ⟨by omega, fun _ => ⟨by omega, fun _ => ⟨by omega, fun _ => ⟨by omega, fun _ => ⟨by omega, fun _ => ⟨by omega, fun _ => ⟨fun _ => ?_, fun hc => absurd (fun hh => by omega) hc⟩⟩⟩⟩⟩⟩⟩⟩⟩⟩
          refine ⟨_, sameV_meets mv e K' hH M xs.length (h.b xs.length (by omega)), ?_⟩
          rintro x hs' ⟨rfl, rfl⟩
          refine ⟨true, by rw [hmv, sameM_refl], rfl, fun hc => absurd rfl hc, fun _ => ⟨by omega, fun _ => ⟨by omega, fun _ => ?_⟩⟩⟩
          refine ⟨by omega, fun _ => ⟨by omega, fun _ => ⟨by omega, fun _ => ⟨by omega, fun _ => ?_⟩⟩⟩⟩
          refine ⟨xs.length + 1, x8 + 1, xs.length + 1, _, Su.setHP K', rfl, rfl, rfl, rfl, rfl, ⟨K', xs ++ [(mv, x8 + 1)], rfl, ?_, ?_, ?_, ?_, ?_, ?_, hgo⟩, ?_⟩
          all_goals simp only [List.getD_cons_zero, List.getD_cons_succ, List.length_append, List.length_singleton, updF, if_true]
          all_goals omega
theorem law_meets (hL : Laid0 w0 n0) (v : V1) {M : Sq.Mv} (h : MvOk n0 w0 M) (hn : M.n ≤ 9223372036854775807) (hlen : ∀ i, i < M.n → (M.B i).length ≤ 9223372036854775807) (s : List UInt8) :
    Meets Tryd.prog 3 [v.v, strV s] [keptHP n0 w0, Su.setHP [], Su.setHP [], Su.setHP [], Su.setHP [], sliM v M] fun x _ => x = .bool true := by
  have e0 : [v.v, strV s] = [SV.vv 0, SV.strE (.avar 7)].map (SV.val { iv := [(M.n : Int)], av := [M.A 0, M.A 1, M.A 2, M.A 3, M.A 4, M.A 5, M.A 6, rowS s], vv := [v], va := [M.V], pv := [keptHP n0 w0, Su.setHP [], Su.setHP [], Su.setHP [], Su.setHP []] }) := by
    rw [strV_row]; rfl
  rw [e0]
  refine Meets.of_runE (C := cx) (cnt := { a := 8, i := 1, v := 1, p := 5 }) (ρ := { iv := [(M.n : Int)], av := [M.A 0, M.A 1, M.A 2, M.A 3, M.A 4, M.A 5, M.A 6, rowS s], vv := [v], va := [M.V], pv := [keptHP n0 w0, Su.setHP [], Su.setHP [], Su.setHP [], Su.setHP []] }) okT okFT okM Tryd.func3 (by constructor <;> rfl)
    (Post := fun x _ => x = .bool true) (args := [.vv 0, .strE (.avar 7)]) (hp := hpL) run_lawB
    (vc_lawB Tryd.prog (fun x _ => x = .bool true) M.n (M.A 0) (M.A 1) (M.A 2) (M.A 3) (M.A 4) (M.A 5) (M.A 6) (rowS s) v M.V (keptHP n0 w0) (Su.setHP []) (Su.setHP []) (Su.setHP []) (Su.setHP []) (fun _ => LC.none)) ?_ (Tr.pureOk cx rfl)
  unfold st_lawB
  rw [rowS0]
  intro _ _
  refine ⟨_, heavy_meets v h hn hlen, ?_⟩
  rintro _ _ ⟨⟨hv, rfl, hsm⟩, rfl⟩
  refine ⟨hv, rfl, rfl, .inr (by omega), fun _ => ⟨fun _ => rfl, fun hh => ?_⟩⟩
  have hvf : hv = false := by
    cases hv with
    | true => exact absurd (Or.inl rfl) hh
    | false => rfl
  have hsml := hsm hvf
  have hs : s.length ≤ 10000 := by omega
  have hB := part_b hL s hs
  intro b2
  refine ⟨_, printM_meets hL v h hsml hn b2, ?_⟩
  rintro _ _ ⟨rfl, rfl⟩
  rcases hpr : prG 0 [] (linesOf M) with ⟨t, e⟩
  refine ⟨e, rowS t, by unfold prV; rw [strV_row], rfl, fun he => ?_, fun _ => hB⟩
  subst he
  rw [strD_rowS, rowS0]
  -- what was printed
  have hml := moves_len M
  obtain ⟨et, hl1000, htl, hne⟩ := pr_ok _ _ _ _ hpr (by omega) (by simp)
  rw [lines_moves, List.length_map] at hl1000
  rw [lines_moves, text_map, List.nil_append] at et
  have hat : ∀ (i : Nat) (hi : i < (movesOf M).length), (movesOf M)[i]'hi = moveOf M i := fun i hi => by simp [movesOf]
  have hPr : ∀ m ∈ movesOf M, Pr m := by
    intro m hm
    refine ⟨?_, hne _ (by rw [lines_moves]; exact List.mem_map_of_mem hm)⟩
    obtain ⟨i, hi, rfl⟩ := List.getElem_of_mem hm
    rw [hat]
    have hi' : i < M.n := by omega
    exact ⟨h.r i 0 hi' (by decide), h.r i 1 hi' (by decide), h.r i 2 hi' (by decide), h.r i 3 hi' (by decide), h.r i 4 hi' (by decide), h.g4 i hi', h.g5 i hi'⟩
  have hread : preadR t = (num 1 (movesOf M), 0, 0) := by rw [et]; exact read_text _ hPr (by omega) (by rw [← et]; exact htl)
  refine ⟨_, read_meets hL [] t (by omega), ?_⟩
  rw [hread]
  rintro x hs' ⟨v1, K1, ys, B1, B2, B3, B4, B5, B6, B7, B8, B9, hys, _, rfl, hT1, rfl⟩
  obtain rfl := hys rfl
  refine ⟨v1, _, _, (num 1 (movesOf M)).length, B1, B2, B3, B4, B5, B6, B7, B8, Su.setHP K1, rfl, by rw [Int.toNat_natCast]; rfl, ?_⟩
  refine ⟨fun _ => ?_, fun hc => absurd (fun hh => by rcases hh with hh | hh <;> exact hh rfl) hc⟩
  simp only [Int.toNat_natCast]
  rw [num_len]
  refine ⟨_, rowsV_meets K1 v1 v (movesOf M) h B1 B2 B3 B4 B5 B6 B7 B8 (tab_num hT1) (by omega), ?_⟩
  rintro x hs' ⟨rfl, rfl⟩
  refine ⟨true, by rw [sameL_refl], rfl, fun hc => absurd rfl hc, fun _ => ?_⟩
  intro _
  refine ⟨by omega, fun _ => ⟨by omega, fun _ => ⟨by omega, fun _ => ⟨by omega, fun _ => ?_⟩⟩⟩⟩
  intro _ _ _ _ _ _ _
  refine ⟨by omega, fun _ => ⟨fun hbig => ?_, fun hbig => ?_⟩⟩
  · exact ⟨by omega, fun _ => ⟨by omega, fun _ => ⟨fun hc => absurd hc.2 (by omega), fun _ => hB⟩⟩⟩
  intro _ _ _ _ _ _ _ _
  exact loop_part hL h hsml s hB t et hPr (by omega) (by omega)
end Go.RX.Bj

namespace Go.RX
open Go Go.Proofs Go.RowKit
theorem returnsInHanded_shapedX {H : Type} {enc : TypeId × Value → H} {a : Assume} {C : Checked} {os : Os} {f : FuncId} {fn : Func} {s : ChangeSpec} {conds : List PathCond} {apart fresh handsOn again : Bool} {X : World → Array Value → Prop}
    (hX : ∀ (w w' : World) (args : Array Value), w.heap = w'.heap → X w args → X w' args)
    (own : ownKnob C.prog.godebug = none) (started : os.Started) (noInit : C.prog.inits.idxOf? f = none) (hfn : C.prog.funcs[f]? = some fn)
    (witness : ∃ (w : World) (tape : Tape) (i : Input), w.os = os ∧ (w.forCall tape i).Shaped C.prog ∧ i.vars = [] ∧ Input.okWide C.prog (w.forCall tape i) .any w.heap.size f i ∧
      ((s.pre enc C.prog fn conds apart (w.forCall tape i).memory i.args ∧ X (w.forCall tape i).memory i.args) ∧ sizedMet enc C.prog fn (OpenSpec.ofChange s) apart (w.forCall tape i).memory i.args) ∧ a.holds C.prog (lone (Frame.enter C.prog f i.args .normal) [] (w.forCall tape i)))
    (contract : ∀ (W : World) (base : Nat) (args : Array Value) (ds gs : List (DataW H)) (before : List MemPlace),
      (∀ (j : Nat) t v, fn.params[j]? = some t → args[j]? = some v → Value.okWide C.prog W .any base t v) →
      DataW.Whole enc C.prog fn.params.toList s.vars apart W args.toList ds gs before →
      conds.all (PathCond.test C.prog ⟨fn.params.toList, ds, s.plain.varTypes C.prog, gs⟩) = true →
      (DataW.weightsEach C.prog (fn.params.toList ++ s.plain.varTypes C.prog) (ds ++ gs)).all (· ≤ reachBytes) = true → X W args → W.ShapedOpen C.prog →
      a.holds C.prog (lone (Frame.enter C.prog f args .normal) [] W) →
      Calls C.prog f args W fun e W' => ∃ v, e = .returned v ∧ s.post enc C.prog fn apart fresh handsOn again W args v W') :
    ReturnsInHanded a C os f .any (fun w args => (s.pre enc C.prog fn conds apart w args ∧ X w args) ∧ sizedMet enc C.prog fn (OpenSpec.ofChange s) apart w args) (s.post enc C.prog fn apart fresh handsOn again) := by
  refine returnsInHanded_of_calls own started noInit witness ?_
  intro w tape i _ hsh _ hok hpre hholds
  obtain ⟨_, _, _, fn', hfn', _, _, _, _, hval⟩ := hok
  have e : fn' = fn := Option.some.inj (hfn'.symm.trans hfn)
  subst e
  obtain ⟨⟨⟨ds, gs, before, hw, hc⟩, hx⟩, hz⟩ := hpre
  have hw' := DataW.Whole.of_heap (w' := w.forCall tape i) (by rfl) hw
  refine (contract (w.forCall tape i) w.heap.size i.args ds gs before hval hw' hc (hz.weights hw) (hX _ _ _ (by rfl) hx) hsh hholds).mono fun e W' ⟨v, he, hp⟩ => ?_
  subst he
  exact ChangeSpec.post_blind hp
theorem trod_iface {H : Type} {enc : TypeId × Value → H} {P : Program} {w : World} {base : Nat} {sp : Nat → Bool} {held : Bool} {fuel : Nat} {t : TypeId} {ms : Array (String × TypeId)} {cs : List Value} {nm : String} {d : DataW H} {p : List MemPlace}
    (ht : P.underlying t = some (.interface ms)) (h : DataW.trod enc P w base sp held fuel t cs = some (.iface nm d, p)) : ∃ u v, cs = [.iface u v] := by
  cases fuel with
  | zero => simp [DataW.trod] at h
  | succ fuel =>
    simp only [DataW.trod, ht] at h
    split at h <;> simp_all
namespace Ln
theorem iface_var {W : World} {n : String} {nm : String} {d : DataW Unit} (g t : Nat) {ms : Array (String × TypeId)} (h : Lib.VarReads Tryd.prog W n (.iface nm d)) (hg : Tryd.prog.globalNamed n = some g) (ht : (Tryd.prog.globals[g]?).map (·.type) = some t) (hi : Tryd.prog.underlying t = some (.interface ms)) :
    ∃ te pe, W.cell? ⟨g, 0, none⟩ = some (.iface te pe) := by
  obtain ⟨g', t', cs, fuel, p, hg', ht', hv, htr⟩ := h
  obtain rfl := Option.some.inj (hg.symm.trans hg')
  obtain rfl := Option.some.inj (ht.symm.trans ht')
  obtain ⟨u, v, hcs⟩ := trod_iface hi htr
  refine ⟨u, v, ?_⟩
  have := World.var?_cell hg hv 0
  rw [this]
  have : cs = #[.iface u v] := by
    cases cs
    simpa using hcs
  rw [this]
  rfl
theorem var_lt {W : World} {n : String} {d : DataW Unit} (g : Nat) (h : Lib.VarReads Tryd.prog W n d) (hg : Tryd.prog.globalNamed n = some g) : g < W.heap.size := by
  obtain ⟨g', t', cs, fuel, p, hg', ht', hv, htr⟩ := h
  obtain rfl := Option.some.inj (hg.symm.trans hg')
  unfold World.var? at hv
  rw [hg] at hv
  simp only [Option.bind_some] at hv
  rcases Nat.lt_or_ge g W.heap.size with h | h
  · exact h
  · rw [Array.getElem?_eq_none h] at hv
    simp at hv
theorem pow_data : (YtgaabcinjbjbgaaDoor.Rows.laid_internal_strconv_uint64pow10 : DataW Unit) = Lib.tabData .u64 Lib.pow10Tab := by kernel_rfl
theorem laid0 {l : List (String × DataW Unit)} {W : World} (hL : laidMet Tryd.prog l W) (h1 : ("internal/strconv.uint64pow10", YtgaabcinjbjbgaaDoor.Rows.laid_internal_strconv_uint64pow10) ∈ l)
    (h2 : ("strconv.ErrSyntax", YtgaabcinjbjbgaaDoor.Rows.laid_strconv_ErrSyntax) ∈ l) (h3 : ("strconv.ErrRange", YtgaabcinjbjbgaaDoor.Rows.laid_strconv_ErrRange) ∈ l) (h4 : ("math/bits.deBruijn64tab", YtgaabcinjbjbgaaDoor.Rows.laid_math_bits_deBruijn64tab) ∈ l)
    (hsh : W.ShapedOpen Tryd.prog) : Laid0 W W.heap.size := by
  have r1 := Lib.laidMet.reads hL h1
  have r2 := Lib.laidMet.reads hL h2
  have r3 := Lib.laidMet.reads hL h3
  have r4 := Lib.laidMet.reads hL h4
  refine ⟨?_, cell_of_shapedOpen_int (zero := #[.int .i64 0]) (t := 3) hsh (of_decide_eq_true (by kernel_rfl)) (by kernel_rfl) rfl (by kernel_rfl) (by kernel_rfl) Tryd.underlying3, ?_, ?_, ?_⟩
  · have := var_lt 7 r4 (by kernel_rfl)
    omega
  · rw [pow_data] at r1
    obtain ⟨g', t', cs, fuel, p, hg', ht', hv, htr⟩ := r1
    have hg : Tryd.prog.globalNamed "internal/strconv.uint64pow10" = some 1 := by kernel_rfl
    obtain rfl := Option.some.inj (hg.symm.trans hg')
    unfold Lib.TabIs
    rw [hv]
    have ht : (Tryd.prog.globals[1]?).map (·.type) = some 120 := by kernel_rfl
    obtain rfl := Option.some.inj (ht.symm.trans ht')
    have hcs := Lib.cells_of_tab Tryd.underlying120 Tryd.underlying33 (by kernel_rfl) (by kernel_rfl) htr
    rw [← hcs]
  · exact iface_var 4 51 r2 (by kernel_rfl) (by kernel_rfl) Tryd.underlying51
  · exact iface_var 5 51 r3 (by kernel_rfl) (by kernel_rfl) Tryd.underlying51
end Ln
end Go.RX
