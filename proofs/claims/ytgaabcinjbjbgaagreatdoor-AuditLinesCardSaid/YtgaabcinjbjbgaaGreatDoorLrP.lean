/- AuditLines: the words of a valid line, and back. -/
import Derived.Test.YtgaabcinjbjbgaaGreatDoorLyB
import Derived.Lib.ParseIntBCases
namespace Go.RX.Lp
open Go Go.RX Go.Proofs Go.RX.Ln

/-! ### numbers -/
theorem parse_dec (M : Nat) (hM : M < 18446744073709551620) : ∀ u : Nat, u ≤ M → ∀ r, Lib.parseUintM M 0 (Lib.decDigits u ++ r) = Lib.parseUintM M u r := by
  intro u
  induction u using Nat.strongRecOn with
  | _ u ih =>
    intro hu r
    rw [Lib.decDigits]
    by_cases h : u < 10
    · rw [dif_pos h]
      have e : (UInt8.ofNat (48 + u)).toNat = 48 + u := by rw [UInt8.toNat_ofNat']; omega
      rw [List.singleton_append, Lib.parseUintM, e, if_pos (by omega), if_neg (by omega), if_neg (by omega)]
      congr 1
      omega
    · rw [dif_neg h, List.append_assoc, ih (u / 10) (by omega) (by omega)]
      have e : (UInt8.ofNat (48 + u % 10)).toNat = 48 + u % 10 := by rw [UInt8.toNat_ofNat']; omega
      rw [List.singleton_append, Lib.parseUintM, e, if_pos (by omega), if_neg (by omega), if_neg (by omega)]
      congr 1
      omega
theorem dec_ne (u : Nat) : Lib.decDigits u ≠ [] := by
  intro h
  have := (dec_len u).1
  rw [h] at this
  exact absurd this (by decide)
theorem parseB_dec (B u : Nat) (hB : 2 ^ B - 1 < 18446744073709551620) (hu : u ≤ 2 ^ B - 1) : Lib.parseUintB B (Lib.decDigits u) = .ok u := by
  have := parse_dec (2 ^ B - 1) hB u hu []
  rw [List.append_nil] at this
  rw [Lib.parseUintB, if_neg (dec_ne u), this]
  rfl
/-- What a word's number is; false: it is none's. -/
def numP (B : Nat) (l : List UInt8) : Nat × Bool :=
  match Lib.parseUintB B l with
  | .ok u => (u, l == Lib.decDigits u)
  | .range => (2 ^ B - 1, false)
  | _ => (0, false)
theorem numP_dec (B u : Nat) (hB : 2 ^ B - 1 < 18446744073709551620) (hu : u ≤ 2 ^ B - 1) : numP B (Lib.decDigits u) = (u, true) := by
  rw [numP, parseB_dec B u hB hu]
  simp
theorem numP_true (B : Nat) (l : List UInt8) (h : (numP B l).2 = true) : (numP B l).1 ≤ 2 ^ B - 1 ∧ l = Lib.decDigits (numP B l).1 := by
  unfold numP at h ⊢
  generalize hp : Lib.parseUintB B l = r at h ⊢
  rcases r with u | _ | _
  · exact ⟨Lib.parseUintB_le hp, by simpa using h⟩
  · simp at h
  · simp at h
theorem numP_le (B : Nat) (l : List UInt8) : (numP B l).1 ≤ 2 ^ B - 1 := by
  unfold numP
  generalize hp : Lib.parseUintB B l = r
  rcases r with u | _ | _
  · exact Lib.parseUintB_le hp
  · exact Nat.zero_le _
  · exact Nat.le_refl _

/-! ### a text parted once -/
theorem cut_cons (b c : UInt8) (l : List UInt8) : Lib.cut (b :: l) [c] = if b = c then ([], l, true) else if (Lib.cut l [c]).2.2 then (b :: (Lib.cut l [c]).1, (Lib.cut l [c]).2.1, true) else (b :: l, [], false) := by
  unfold Lib.cut
  rw [index_cons]
  by_cases h : b = c
  · simp [h]
  · rw [if_neg h, if_neg h]
    have hg := Lib.index_ge l [c]
    by_cases hi : Lib.index l [c] = -1
    · rw [if_pos hi, hi]
      simp
    · have h0 : 0 ≤ Lib.index l [c] := by omega
      have h1 : 0 ≤ Lib.index l [c] + 1 := by omega
      have h2 : (Lib.index l [c] + 1).toNat = (Lib.index l [c]).toNat + 1 := by omega
      simp [if_neg hi, if_pos h0, if_pos h1, h2]
theorem cut_nil (c : UInt8) : Lib.cut [] [c] = ([], [], false) := by
  unfold Lib.cut
  rw [index_nil]
  simp
theorem cut_at (c : UInt8) (r : List UInt8) : ∀ x : List UInt8, c ∉ x → Lib.cut (x ++ c :: r) [c] = (x, r, true)
  | [], _ => by rw [List.nil_append, cut_cons]; simp
  | b :: x, h => by
    have hb : b ≠ c := fun e => h (by simp [e])
    rw [List.cons_append, cut_cons, cut_at c r x (fun hr => h (List.mem_cons_of_mem _ hr)), if_neg hb]
    rfl
theorem cut_back (c : UInt8) : ∀ s : List UInt8, (Lib.cut s [c] = ((Lib.cut s [c]).1, (Lib.cut s [c]).2.1, true) ∧ s = (Lib.cut s [c]).1 ++ c :: (Lib.cut s [c]).2.1 ∧ c ∉ (Lib.cut s [c]).1) ∨ (Lib.cut s [c] = (s, [], false) ∧ c ∉ s)
  | [] => Or.inr ⟨cut_nil c, by simp⟩
  | b :: s => by
    rw [cut_cons]
    by_cases hb : b = c
    · rw [if_pos hb]
      exact Or.inl ⟨rfl, by rw [hb]; rfl, by simp⟩
    · rw [if_neg hb]
      rcases cut_back c s with ⟨h1, h2, h3⟩ | ⟨h1, h2⟩
      · have h4 : (Lib.cut s [c]).2.2 = true := by rw [h1]
        rw [if_pos h4]
        refine Or.inl ⟨rfl, ?_, ?_⟩
        · show b :: s = b :: ((Lib.cut s [c]).1 ++ c :: (Lib.cut s [c]).2.1)
          rw [← h2]
        · simp [h3, Ne.symm hb]
      · have h4 : (Lib.cut s [c]).2.2 = false := by rw [h1]
        rw [h4]
        exact Or.inr ⟨rfl, by simp [h2, Ne.symm hb]⟩

/-! ### signs of bytes -/
def hexes : List UInt8 := [48, 49, 50, 51, 52, 53, 54, 55, 56, 57, 97, 98, 99, 100, 101, 102]
def hx (c : UInt8) : Int := Lib.indexByte hexes c
theorem hx_all : ∀ c : Fin 256, -1 ≤ hx (UInt8.ofNat c.val) ∧ hx (UInt8.ofNat c.val) < 16 ∧ (0 ≤ hx (UInt8.ofNat c.val) → UInt8.ofNat (rowLF halfs (hx (UInt8.ofNat c.val)).toNat).toNat = UInt8.ofNat c.val) := by decide +kernel
theorem hx_at (c : UInt8) : -1 ≤ hx c ∧ hx c < 16 ∧ (0 ≤ hx c → UInt8.ofNat (rowLF halfs (hx c).toNat).toNat = c) := by
  have := hx_all ⟨c.toNat, c.toNat_lt⟩
  simpa using this
theorem hx_half : ∀ v : Fin 16, hx (UInt8.ofNat (rowLF halfs v.val).toNat) = v.val := by decide +kernel
theorem quo16 (x : Int) (h : 0 ≤ x ∧ x ≤ 255) : IntKind.wrap .u8 (iop .quo .u8 x 16) = x / 16 := by
  simp only [iop]
  rw [Int.tdiv_eq_ediv_of_nonneg h.1, IntWalk.u8_in _ (by omega)]
theorem rem16 (x : Int) (h : 0 ≤ x ∧ x ≤ 255) : iop .rem .u8 x 16 = x % 16 := by
  simp only [iop]
  rw [Int.tmod_eq_emod_of_nonneg h.1]
/-- Where signs are bytes', these bytes' signs are they. -/
theorem hexL_back (h : List UInt8) (A : Nat → Int) (hl : h.length = 32) (hA : ∀ j, j < 16 → 0 ≤ hx (h.getD (2 * j) 0) ∧ 0 ≤ hx (h.getD (2 * j + 1) 0) ∧ A j = 16 * hx (h.getD (2 * j) 0) + hx (h.getD (2 * j + 1) 0)) : h = hexL A := by
  apply List.ext_getElem?
  intro i
  by_cases hi : i < 32
  · rw [hex_at A i hi]
    obtain ⟨h0, h1, h2⟩ := hA (i / 2) (by omega)
    have b0 := hx_at (h.getD (2 * (i / 2)) 0)
    have b1 := hx_at (h.getD (2 * (i / 2) + 1) 0)
    have hb : 0 ≤ A (i / 2) ∧ A (i / 2) ≤ 255 := by omega
    rw [quo16 _ hb, rem16 _ hb]
    by_cases he : i % 2 = 0
    · rw [if_pos he, show A (i / 2) / 16 = hx (h.getD (2 * (i / 2)) 0) by omega, b0.2.2 h0, show 2 * (i / 2) = i by omega, List.getD_eq_getElem?_getD, List.getElem?_eq_getElem (by omega)]
      rfl
    · rw [if_neg he, show A (i / 2) % 16 = hx (h.getD (2 * (i / 2) + 1) 0) by omega, b1.2.2 h1, show 2 * (i / 2) + 1 = i by omega, List.getD_eq_getElem?_getD, List.getElem?_eq_getElem (by omega)]
      rfl
  · rw [List.getElem?_eq_none (by omega), List.getElem?_eq_none (by rw [hexL_len]; omega)]
theorem hexL_hx (A : Nat → Int) (hA : ∀ j, j < 16 → 0 ≤ A j ∧ A j ≤ 255) (j : Nat) (hj : j < 16) : hx ((hexL A).getD (2 * j) 0) = A j / 16 ∧ hx ((hexL A).getD (2 * j + 1) 0) = A j % 16 := by
  have hb := hA j hj
  have e0 := hex_at A (2 * j) (by omega)
  have e1 := hex_at A (2 * j + 1) (by omega)
  rw [show 2 * j / 2 = j by omega, if_pos (by omega), quo16 _ hb] at e0
  rw [show (2 * j + 1) / 2 = j by omega, if_neg (by omega), rem16 _ hb] at e1
  rw [List.getD_eq_getElem?_getD, e0, List.getD_eq_getElem?_getD, e1]
  have v0 := hx_half ⟨(A j / 16).toNat, by omega⟩
  have v1 := hx_half ⟨(A j % 16).toNat, by omega⟩
  simp only at v0 v1
  exact ⟨by rw [Option.getD_some, v0]; omega, by rw [Option.getD_some, v1]; omega⟩

/-! ### the words -/
theorem dec_digit : ∀ (u : Nat) (c : UInt8), c ∈ Lib.decDigits u → 48 ≤ c.toNat ∧ c.toNat ≤ 57 := by
  intro u
  induction u using Nat.strongRecOn with
  | _ u ih =>
    intro c hc
    rw [Lib.decDigits] at hc
    by_cases h : u < 10
    · rw [dif_pos h, List.mem_singleton] at hc
      rw [hc, UInt8.toNat_ofNat']
      omega
    · rw [dif_neg h, List.mem_append, List.mem_singleton] at hc
      rcases hc with hc | hc
      · exact ih (u / 10) (by omega) c hc
      · rw [hc, UInt8.toNat_ofNat']
        omega
theorem dec_not (u : Nat) (c : UInt8) (h : ¬ (48 ≤ c.toNat ∧ c.toNat ≤ 57)) : c ∉ Lib.decDigits u := fun hc => h (dec_digit u c hc)
theorem word_not (k : Nat) (h : 1 ≤ k ∧ k ≤ 7) : (32 : UInt8) ∉ wordL k := by
  have hk : k = 1 ∨ k = 2 ∨ k = 3 ∨ k = 4 ∨ k = 5 ∨ k = 6 ∨ k = 7 := by omega
  rcases hk with rfl | rfl | rfl | rfl | rfl | rfl | rfl <;> decide
theorem half_ne : ∀ v : Fin 16, UInt8.ofNat (rowLF halfs v.val).toNat ≠ 32 := by decide +kernel
theorem hexL_not (A : Nat → Int) (hA : ∀ j, j < 16 → 0 ≤ A j ∧ A j ≤ 255) : (32 : UInt8) ∉ hexL A := by
  intro h
  obtain ⟨i, hi, he⟩ := List.getElem_of_mem h
  rw [hexL_len] at hi
  have e0 := hex_at A i hi
  rw [List.getElem?_eq_getElem (by rw [hexL_len]; exact hi), he, Option.some.injEq] at e0
  have hb := hA (i / 2) (by omega)
  rw [quo16 _ hb, rem16 _ hb] at e0
  split at e0
  · exact half_ne ⟨(A (i / 2) / 16).toNat, by omega⟩ e0.symm
  · exact half_ne ⟨(A (i / 2) % 16).toNat, by omega⟩ e0.symm
theorem split_valid {l : List UInt8} {k t a d : Nat} {A : Nat → Int} (h : ValidLine l k t a d A) : splitL 32 l = [wordL k, Lib.decDigits t, Lib.decDigits a ++ 47 :: Lib.decDigits d, hexL A] := by
  rw [h.hl, lineL_tail, splitL_app 32 _ _ (word_not k ⟨h.k1, h.k7⟩), tailL, splitL_app 32 _ _ (dec_not t 32 (by decide))]
  rw [show Lib.decDigits a ++ 47 :: (Lib.decDigits d ++ 32 :: hexL A) = (Lib.decDigits a ++ 47 :: Lib.decDigits d) ++ 32 :: hexL A by simp]
  rw [splitL_app 32 _ _ (by
    simp only [List.mem_append, List.mem_cons, not_or]
    exact ⟨dec_not a 32 (by decide), by decide, dec_not d 32 (by decide)⟩), splitL_one 32 _ (hexL_not A h.hA)]
/-- Four words that are as they must be make a valid line. -/
theorem valid_split {l : List UInt8} {k t a d : Nat} {A : Nat → Int} {m x : List UInt8} (hs : splitL 32 l = [wordL k, Lib.decDigits t, m, x]) (k1 : 1 ≤ k) (k7 : k ≤ 7) (ht : t ≤ 2147483647) (ha : a ≤ 255) (hd : d ≤ 255) (hA : ∀ j, j < 16 → 0 ≤ A j ∧ A j ≤ 255)
    (hm : m = Lib.decDigits a ++ 47 :: Lib.decDigits d) (hx : x = hexL A) : ValidLine l k t a d A := by
  subst hm hx
  obtain ⟨l1, e1, s1, _⟩ := splitL_cons 32 _ _ _ _ hs
  obtain ⟨l2, e2, s2, _⟩ := splitL_cons 32 _ _ _ _ s1
  obtain ⟨l3, e3, s3, _⟩ := splitL_cons 32 _ _ _ _ s2
  obtain ⟨e4, _⟩ := splitL_last 32 _ _ s3
  refine ⟨k1, k7, ht, ha, hd, hA, ?_⟩
  rw [lineL_tail, e1, e2, e3, e4, tailL]
  simp
theorem dec_inj {a b : Nat} (h : Lib.decDigits a = Lib.decDigits b) (ha : a ≤ 18446744073709551615) (hb : b ≤ 18446744073709551615) : a = b := by
  have e1 := parseB_dec 64 a (by decide) (by simpa using ha)
  have e2 := parseB_dec 64 b (by decide) (by simpa using hb)
  rw [h, e2] at e1
  exact (Lib.NumEnd.ok.inj e1).symm
end Go.RX.Lp
