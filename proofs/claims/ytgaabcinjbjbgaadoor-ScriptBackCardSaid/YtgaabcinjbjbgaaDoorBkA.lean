/- What is printed is read az it was, plainly: bytes' digits, devices, a line's words. -/
import Derived.Test.YtgaabcinjbjbgaaDoorSpM
import Derived.Test.YtgaabcinjbjbgaaDoorM38

namespace Go.RX.Bk
open Go Go.RX Go.Proofs Go.RX.Ln Go.RX.Su Go.RX.Sv
def hexD (n : Nat) : UInt8 := UInt8.ofNat (rowLF halfs n).toNat
def hexR : List UInt8 → List UInt8
  | [] => []
  | b :: r => hexD (b.toNat / 16) :: hexD (b.toNat % 16) :: hexR r
theorem hexD_v : ∀ n : Fin 16, hexv (hexD n.val) = some n.val := by decide +kernel
theorem hexD_back : ∀ c : Fin 256, ∀ n : Fin 16, hexv (UInt8.ofNat c.val) = some n.val → hexD n.val = UInt8.ofNat c.val := by decide +kernel
theorem hexD_big : ∀ n : Fin 16, 48 ≤ (hexD n.val).toNat := by decide +kernel
theorem nib_hex (l : List UInt8) : (List.range (2 * l.length)).map (fun j => UInt8.ofNat (Sp.nibF l j).toNat) = hexR l := by
  induction l with
  | nil => rfl
  | cons b r ih =>
    rw [List.length_cons, show 2 * (r.length + 1) = (2 * r.length + 1) + 1 by omega, List.range_succ_eq_map, List.map_cons, List.map_map, List.range_succ_eq_map, List.map_cons, List.map_map, hexR]
    congr 1
    congr 1
    rw [← ih]
    refine List.map_congr_left fun j _ => ?_
    simp only [Function.comp]
    congr 2
    unfold Sp.nibF
    rw [show (j + 1 + 1) % 2 = j % 2 by omega, show (j + 1 + 1) / 2 = j / 2 + 1 by omega, List.getD_cons_succ]
theorem hexS_R (l : List UInt8) : Sp.hexS l = if l = [] then [45] else hexR l := by
  unfold Sp.hexS
  rw [nib_hex]
theorem hexR_len (l : List UInt8) : (hexR l).length = 2 * l.length := by
  induction l with
  | nil => rfl
  | cons b r ih => rw [hexR, List.length_cons, List.length_cons, ih, List.length_cons]; omega
theorem runH_hex (l : List UInt8) : runH (hexR l) none = some l := by
  induction l with
  | nil => rfl
  | cons b r ih =>
    have hb := b.toNat_lt
    rw [hexR, runH, hexD_v ⟨b.toNat / 16, by omega⟩]
    simp only
    rw [runH, hexD_v ⟨b.toNat % 16, by omega⟩]
    simp only
    rw [ih, Option.map_some, show 16 * (b.toNat / 16) + b.toNat % 16 = b.toNat by omega, UInt8.ofNat_toNat]
theorem hexv_back (c : UInt8) (x : Nat) (h : hexv c = some x) : hexD x = c := by
  have hx := hexv_lt c h
  have := hexD_back ⟨c.toNat, c.toNat_lt⟩ ⟨x, hx⟩ (by rw [UInt8.ofNat_toNat]; exact h)
  rwa [UInt8.ofNat_toNat] at this
theorem runH_back : ∀ (l b : List UInt8), runH l none = some b → l = hexR b
  | [], b, h => by rw [runH, Option.some.injEq] at h; rw [← h]; rfl
  | [c], b, h => by
    rw [runH] at h
    split at h
    · cases h
    · rw [runH] at h; cases h
  | c :: d :: r, b, h => by
    rw [runH] at h
    split at h
    · cases h
    · rename_i x hx
      rw [runH] at h
      split at h
      · cases h
      · rename_i y hy
        obtain ⟨b', hb', rfl⟩ := Option.map_eq_some_iff.1 h
        have hx' := hexv_lt c hx
        have hy' := hexv_lt d hy
        have e : (UInt8.ofNat (16 * x + y)).toNat = 16 * x + y := by rw [UInt8.toNat_ofNat']; omega
        rw [hexR, e, show (16 * x + y) / 16 = x by omega, show (16 * x + y) % 16 = y by omega, hexv_back c x hx, hexv_back d y hy, ← runH_back r b' hb']
theorem unhex_iff (l b : List UInt8) : unhexR l = some b ↔ l = Sp.hexS b := by
  rw [hexS_R]
  constructor
  · intro h
    unfold unhexR at h
    split at h
    · rename_i e
      rw [Option.some.injEq] at h
      rw [← h, if_pos rfl, e]
    · split at h
      · cases h
      · rename_i hl
        have := runH_back l b h
        rw [if_neg]
        · exact this
        · rintro rfl
          rw [this] at hl
          exact hl (.inl rfl)
  · intro h
    by_cases hb : b = []
    · subst hb
      rw [h, if_pos rfl]
      rfl
    · rw [if_neg hb] at h
      have hl := hexR_len b
      have hb' : 0 < b.length := List.length_pos_iff.2 hb
      rw [← h] at hl
      unfold unhexR
      rw [if_neg, if_neg (by omega), h, runH_hex]
      intro e
      rw [e] at hl
      simp at hl
      omega
theorem dec_dig : ∀ (u : Nat) (c : UInt8), c ∈ Lib.decDigits u → 48 ≤ c.toNat ∧ c.toNat ≤ 57 := by
  intro u
  induction u using Nat.strongRecOn with
  | _ u ih =>
    intro c hc
    rw [Lib.decDigits] at hc
    split at hc
    · rw [List.mem_singleton] at hc
      subst hc
      rw [UInt8.toNat_ofNat']
      omega
    · rw [List.mem_append, List.mem_singleton] at hc
      rcases hc with hc | rfl
      · exact ih (u / 10) (by omega) c hc
      · rw [UInt8.toNat_ofNat']
        omega
theorem dev_at (x y : Int) (hx : 0 ≤ x ∧ x ≤ 255) (hy : 0 ≤ y ∧ y ≤ 255) : devR (Sp.devS x y) = some (x.toNat, y.toNat) := by
  unfold devR Sp.devS
  rw [show Lib.decDigits x.toNat ++ [47] ++ Lib.decDigits y.toNat = Lib.decDigits x.toNat ++ 47 :: Lib.decDigits y.toNat by simp, cutR_at 47 _ _ fun b hb e => by
    have := dec_dig _ b hb
    rw [e] at this
    simp at this]
  have h1 := (numR_iff 255 (by decide) (Lib.decDigits x.toNat) x.toNat).2 ⟨by omega, rfl⟩
  have h2 := (numR_iff 255 (by decide) (Lib.decDigits y.toNat) y.toNat).2 ⟨by omega, rfl⟩
  simp only
  rw [h1, h2]
theorem cutR_some (c : UInt8) : ∀ (l a b : List UInt8), cutR c l = some (a, b) → l = a ++ c :: b
  | [], a, b, h => by rw [cutR] at h; cases h
  | d :: r, a, b, h => by
    rw [cutR] at h
    split at h
    · rename_i e
      cases h
      rw [e]
      rfl
    · obtain ⟨⟨a', b'⟩, hr, e⟩ := Option.map_eq_some_iff.1 h
      cases e
      rw [cutR_some c r a' b' hr]
      rfl
theorem dev_back (l : List UInt8) (p : Nat × Nat) (h : devR l = some p) : (p.1 ≤ 255 ∧ p.2 ≤ 255) ∧ l = Sp.devS p.1 p.2 := by
  unfold devR at h
  split at h
  · cases h
  · rename_i a b hc
    split at h
    · rename_i x y hx hy
      cases h
      have h1 := (numR_iff 255 (by decide) a x).1 hx
      have h2 := (numR_iff 255 (by decide) b y).1 hy
      refine ⟨⟨h1.1, h2.1⟩, ?_⟩
      rw [cutR_some 47 l a b hc, h1.2, h2.2]
      unfold Sp.devS
      simp
    · cases h
def Okw (w : List UInt8) : Prop := w ≠ [] ∧ ∀ c ∈ w, 45 ≤ c.toNat
def joinB : List (List UInt8) → List UInt8
  | [] => []
  | [w] => w
  | w :: v :: r => w ++ 32 :: joinB (v :: r)
theorem wordsG_app : ∀ (x r w : List UInt8), (∀ c ∈ x, 45 ≤ c.toNat) → wordsG (x ++ r) w = wordsG r (w ++ x)
  | [], r, w, _ => by simp
  | c :: x, r, w, h => by
    have hc := h c (by simp)
    have n1 : c ≠ 32 := fun e => by rw [e] at hc; simp at hc
    have n2 : c ≠ 35 := fun e => by rw [e] at hc; simp at hc
    rw [List.cons_append, wordsG, if_pos ⟨n1, n2⟩, wordsG_app x r _ fun d hd => h d (by simp [hd]), List.append_assoc]
    rfl
theorem words_join : ∀ ws : List (List UInt8), (∀ w ∈ ws, Okw w) → wordsR (joinB ws) = ws
  | [], _ => rfl
  | [w], h => by
    have hw := h w (by simp)
    have := wordsG_app w [] [] hw.2
    rw [List.append_nil, List.nil_append] at this
    show wordsG w [] = [w]
    rw [this, wordsG, if_neg hw.1]
  | w :: v :: r, h => by
    have hw := h w (by simp)
    show wordsG (w ++ 32 :: joinB (v :: r)) [] = _
    rw [wordsG_app w _ [] hw.2, List.nil_append, wordsG, if_neg (by simp), if_neg hw.1, if_neg (by decide)]
    have ih := words_join (v :: r) fun x hx => h x (by simp at hx ⊢; right; exact hx)
    rw [show wordsG (joinB (v :: r)) [] = v :: r from ih]
    rfl
theorem dec_ok (u : Nat) : Okw (Lib.decDigits u) := by
  refine ⟨fun e => ?_, fun c hc => by have := dec_dig u c hc; omega⟩
  have := dec_len u
  rw [e] at this
  simp at this
theorem itoa_ok (z : Int) : Okw (Lib.itoa z) := by
  unfold Lib.itoa
  split
  · refine ⟨by simp, fun c hc => ?_⟩
    rw [List.mem_cons] at hc
    rcases hc with rfl | hc
    · decide
    · exact (dec_ok _).2 c hc
  · exact dec_ok _
theorem dev_ok (x y : Int) : Okw (Sp.devS x y) := by
  unfold Sp.devS
  refine ⟨by simp, fun c hc => ?_⟩
  simp only [List.mem_append, List.mem_singleton] at hc
  rcases hc with (hc | rfl) | hc
  · exact (dec_ok _).2 c hc
  · decide
  · exact (dec_ok _).2 c hc
theorem hexR_big : ∀ (l : List UInt8), ∀ c ∈ hexR l, 45 ≤ c.toNat
  | [], c, hc => by simp [hexR] at hc
  | b :: r, c, hc => by
    have hb := b.toNat_lt
    rw [hexR, List.mem_cons, List.mem_cons] at hc
    rcases hc with rfl | rfl | hc
    · have := hexD_big ⟨b.toNat / 16, by omega⟩
      simp only at this
      omega
    · have := hexD_big ⟨b.toNat % 16, by omega⟩
      simp only at this
      omega
    · exact hexR_big r c hc
theorem hex_ok (l : List UInt8) : Okw (Sp.hexS l) := by
  rw [hexS_R]
  split
  · exact ⟨by simp, fun c hc => by rw [List.mem_singleton] at hc; subst hc; decide⟩
  · rename_i hl
    refine ⟨fun e => hl ?_, hexR_big l⟩
    have := hexR_len l
    rw [e] at this
    exact List.eq_nil_of_length_eq_zero (by simp at this; omega)
theorem join_no10 : ∀ ws : List (List UInt8), (∀ w ∈ ws, Okw w) → (10 : UInt8) ∉ joinB ws
  | [], _ => by simp [joinB]
  | [w], h => fun hc => by
    have := (h w (by simp)).2 10 hc
    simp at this
  | w :: v :: r, h => fun hc => by
    rw [joinB, List.mem_append, List.mem_cons] at hc
    rcases hc with hc | hc | hc
    · have := (h w (by simp)).2 10 hc
      simp at this
    · simp at hc
    · exact join_no10 (v :: r) (fun x hx => h x (by simp at hx ⊢; right; exact hx)) hc
theorem words_sum : ∀ (r w : List UInt8), ((wordsG r w).map fun x => x.length + 1).sum ≤ r.length + w.length + 1
  | [], w => by
    rw [wordsG]
    split
    · simp
    · simp
  | c :: r, w => by
    rw [wordsG]
    split
    · have := words_sum r (w ++ [c])
      simp at this ⊢
      omega
    · have := words_sum r []
      rw [List.map_append, List.sum_append]
      have h1 : ((if w = [] then [] else [w] : List (List UInt8)).map fun x => x.length + 1).sum ≤ w.length + 1 := by
        split <;> simp
      have h2 : ((if c = 35 then [] else wordsG r [] : List (List UInt8)).map fun x => x.length + 1).sum ≤ r.length + 1 := by
        split
        · simp
        · simpa using this
      rw [List.length_cons]
      omega
theorem join_len : ∀ ws : List (List UInt8), (joinB ws).length ≤ (ws.map fun x => x.length + 1).sum - 1
  | [] => by simp [joinB]
  | [w] => by simp [joinB]
  | w :: v :: r => by
    have ih := join_len (v :: r)
    rw [joinB, List.length_append, List.length_cons, List.map_cons, List.sum_cons]
    have : 1 ≤ ((v :: r).map fun x => x.length + 1).sum := by rw [List.map_cons, List.sum_cons]; omega
    omega
theorem join_words (s : List UInt8) : (joinB (wordsR s)).length ≤ s.length := by
  have h1 := join_len (wordsR s)
  have h2 := words_sum s []
  unfold wordsR at h1 ⊢
  simp only [List.length_nil] at h2
  omega
end Go.RX.Bk
