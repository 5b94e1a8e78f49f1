/- Reading of moves: numbers in digits, plainly. · Reading of moves, the document's side: numbers, whole numbers, devices. · Reading of moves, the document's side: whole numbers, devices. · Reading of moves, the document's side: bytes in digits. · Reading of moves, the document's side: a line's words. · Reading of moves: a line's words az a move, plainly; the memory of the moves' bytes. · Reading of moves, the document's side: a line's words az a move; printed by a program of ours (wip/tools). · AuditLines: a text parted at a byte. · Reading of a text, the document's side: moves and their lines. -/
import Derived.Test.YtgaabcinjbjbgaaDoorM29
import Derived.Test.YtgaabcinjbjbgaaDoorM25
import Derived.Test.YtgaabcinjbjbgaaDoorM36
import Derived.Test.YtgaabcinjbjbgaaDoorM26
import Derived.Test.YtgaabcinjbjbgaaDoorM30
import Derived.Lib.ItoaNum
import Derived.Lib.SplitLaws
import Derived.Lib.CutLaws
import Derived.Lib.CountLaws
import Derived.Test.YtgaabcinjbjbgaaDoorM37

namespace Go.RX.Su
open Go Go.RX Go.Proofs Go.RX.Ln
def valR (M : Nat) : List UInt8 → Nat → Option Nat
  | [], n => some n
  | c :: r, n => if 48 ≤ c.toNat ∧ c.toNat ≤ 57 then (if M < 10 * n + (c.toNat - 48) then none else valR M r (10 * n + (c.toNat - 48))) else none
def numR (M : Nat) (l : List UInt8) : Option Nat := if (l.length = 0 ∨ 20 < l.length) ∨ (l.getD 0 0 = 48 ∧ 1 < l.length) then none else valR M l 0
theorem valR_dec (M : Nat) : ∀ u : Nat, u ≤ M → ∀ r : List UInt8, valR M (Lib.decDigits u ++ r) 0 = valR M r u := by
  intro u
  induction u using Nat.strongRecOn with
  | _ u ih =>
    intro hu r
    rw [Lib.decDigits]
    by_cases h : u < 10
    · rw [dif_pos h, List.singleton_append, valR]
      have hc : (UInt8.ofNat (48 + u)).toNat = 48 + u := by rw [UInt8.toNat_ofNat']; omega
      rw [hc, if_pos (by omega), if_neg (by omega)]
      congr 1
      omega
    · rw [dif_neg h, List.append_assoc, ih (u / 10) (by omega) (by omega), List.singleton_append, valR]
      have hc : (UInt8.ofNat (48 + u % 10)).toNat = 48 + u % 10 := by rw [UInt8.toNat_ofNat']; omega
      rw [hc, if_pos (by omega), if_neg (by omega)]
      congr 1
      omega
theorem dec_step (a d : Nat) (ha : 0 < a) (hd : d < 10) : Lib.decDigits (10 * a + d) = Lib.decDigits a ++ [UInt8.ofNat (48 + d)] := by
  conv => lhs; rw [Lib.decDigits]
  rw [dif_neg (by omega), show (10 * a + d) / 10 = a by omega, show (10 * a + d) % 10 = d by omega]
theorem dec_one (d : Nat) (hd : d < 10) : Lib.decDigits d = [UInt8.ofNat (48 + d)] := by rw [Lib.decDigits, dif_pos hd]
theorem digit_back (c : UInt8) (h : 48 ≤ c.toNat) : UInt8.ofNat (48 + (c.toNat - 48)) = c := by
  rw [show 48 + (c.toNat - 48) = c.toNat by omega, UInt8.ofNat_toNat]
theorem valR_back (M : Nat) : ∀ (r : List UInt8) (a n : Nat), valR M r a = some n → a ≤ M → 0 < a → n ≤ M ∧ Lib.decDigits n = Lib.decDigits a ++ r
  | [], a, n, h, ha, _ => by
    rw [valR, Option.some.injEq] at h
    subst h
    exact ⟨ha, by simp⟩
  | c :: r, a, n, h, ha, h0 => by
    rw [valR] at h
    split at h
    · rename_i hc
      split at h
      · cases h
      · rename_i hm
        have := valR_back M r _ n h (by omega) (by omega)
        rw [dec_step a _ h0 (by omega), digit_back c hc.1] at this
        exact ⟨this.1, by rw [this.2]; simp⟩
    · cases h
theorem dec_head : ∀ u : Nat, (Lib.decDigits u).getD 0 0 = 48 → u = 0 := by
  intro u
  induction u using Nat.strongRecOn with
  | _ u ih =>
    intro h
    rw [Lib.decDigits] at h
    by_cases h10 : u < 10
    · rw [dif_pos h10] at h
      simp only [List.getD_cons_zero] at h
      have hc : (UInt8.ofNat (48 + u)).toNat = 48 + u := by rw [UInt8.toNat_ofNat']; omega
      rw [h] at hc
      have : (48 : UInt8).toNat = 48 := rfl
      omega
    · rw [dif_neg h10] at h
      have hl := (dec_len (u / 10)).1
      have : (Lib.decDigits (u / 10) ++ [UInt8.ofNat (48 + u % 10)]).getD 0 0 = (Lib.decDigits (u / 10)).getD 0 0 := by
        rw [List.getD_eq_getElem?_getD, List.getElem?_append_left (by omega), ← List.getD_eq_getElem?_getD]
      rw [this] at h
      have := ih (u / 10) (by omega) h
      omega
theorem numR_iff (M : Nat) (hM : M < 18446744073709551616) (l : List UInt8) (n : Nat) : numR M l = some n ↔ n ≤ M ∧ l = Lib.decDigits n := by
  constructor
  · intro h
    unfold numR at h
    split at h
    · cases h
    · rename_i hc
      rcases l with _ | ⟨c, r⟩
      · simp at hc
      · rw [valR] at h
        split at h
        · rename_i hd
          split at h
          · cases h
          · rename_i hm
            by_cases h0 : c = 48
            · subst h0
              simp only [List.getD_cons_zero, List.length_cons, true_and] at hc
              have hr : r = [] := by rcases r with _ | ⟨x, r⟩; rfl; simp at hc
              subst hr
              rw [valR, Option.some.injEq] at h
              have e : (48 : UInt8).toNat = 48 := rfl
              rw [e] at h
              subst h
              exact ⟨by omega, by rw [dec_one _ (by omega)]; rfl⟩
            · have hne : c.toNat ≠ 48 := fun e => h0 (UInt8.toNat_inj.1 e)
              obtain ⟨h1, h2⟩ := valR_back M r _ n h (by omega) (by omega)
              refine ⟨h1, ?_⟩
              rw [h2, show 10 * 0 + (c.toNat - 48) = c.toNat - 48 by omega, dec_one _ (by omega), digit_back c hd.1]
              rfl
        · cases h
  · rintro ⟨hn, rfl⟩
    have hl := dec_len n
    have h20 : (Lib.decDigits n).length ≤ 20 := dec_len20 19 n (by omega)
    unfold numR
    rw [if_neg]
    · have := valR_dec M n hn []
      rw [List.append_nil] at this
      rw [this]
      rfl
    · rintro (h | ⟨h, h1⟩)
      · omega
      · have := dec_head n h
        subst this
        rw [dec_one 0 (by omega)] at h1
        simp at h1
end Go.RX.Su

namespace Go.RX.Su
open Go Go.RX Go.Proofs Go.RX.Ln
theorem u64_in (x : Int) (h : 0 ≤ x ∧ x ≤ 18446744073709551615) : IntKind.wrap .u64 x = x := wrap_fits .u64 x h.1 h.2
theorem u8_in (x : Int) (h : 0 ≤ x ∧ x ≤ 255) : IntKind.wrap .u8 x = x := wrap_fits .u8 x h.1 h.2
end Go.RX.Su

namespace Go.RX.Su
open Go Go.RX Go.Proofs Go.RX.Ln
theorem strD_of (f : Nat → Int) (l : List UInt8) (h0 : f 0 = l.length) (h : ∀ j (hj : j < l.length), f (j + 1) = ((l[j]'hj).toNat : Int)) : strD f = l := by
  apply List.ext_getElem?
  intro j
  simp only [strD, h0, Int.toNat_natCast, List.getElem?_map]
  by_cases hj : j < l.length
  · rw [List.getElem?_range hj, List.getElem?_eq_getElem hj]
    simp [h j hj]
  · rw [List.getElem?_eq_none (by simp; omega), List.getElem?_eq_none (by omega)]
    rfl
theorem rowS_at (l : List UInt8) (j : Nat) (h : j < l.length) : rowS l (j + 1) = ((l[j]'h).toNat : Int) := by
  rw [rowS, List.getD_eq_getElem?_getD, List.getElem?_eq_getElem h, Option.getD_some]
theorem mid_rowS (l : List UInt8) (a b : Nat) (h : a ≤ b) (hb : b ≤ l.length) : strD (updF (shiftF (rowS l) a) 0 ((b : Int) - a)) = (l.drop a).take (b - a) := by
  refine strD_of _ _ ?_ fun j hj => ?_
  · rw [List.length_take, List.length_drop, updF, if_pos rfl]
    omega
  · rw [List.length_take, List.length_drop] at hj
    rw [updF, if_neg (by omega), shiftF, show a + (j + 1) = a + j + 1 by omega, rowS_at l (a + j) (by omega), List.getElem_take, List.getElem_drop]
def wholeR (l : List UInt8) : Option Int :=
  if l.head? = some 45 then (match numR 9223372036854775808 l.tail with | some n => if 0 < n then some (-(n : Int)) else none | none => none)
  else Option.map (fun n : Nat => (n : Int)) (numR 9223372036854775807 l)
theorem wholeR_iff (l : List UInt8) (z : Int) : wholeR l = some z ↔ (-9223372036854775808 ≤ z ∧ z ≤ 9223372036854775807) ∧ l = Lib.itoa z := by
  unfold wholeR
  constructor
  · intro h
    split at h
    · rename_i hh
      rcases l with _ | ⟨c, r⟩
      · cases hh
      · simp only [List.head?_cons, Option.some.injEq] at hh
        subst hh
        rw [List.tail_cons] at h
        split at h
        · rename_i n hn
          obtain ⟨h1, h2⟩ := (numR_iff _ (by omega) _ _).1 hn
          split at h
          · rename_i h0
            rw [Option.some.injEq] at h
            subst h
            refine ⟨by omega, ?_⟩
            unfold Lib.itoa
            rw [if_pos (by omega), show (-(n : Int)).natAbs = n by omega, h2]
          · cases h
        · cases h
    · rw [Option.map_eq_some_iff] at h
      obtain ⟨n, hn, rfl⟩ := h
      obtain ⟨h1, h2⟩ := (numR_iff _ (by omega) _ _).1 hn
      refine ⟨by omega, ?_⟩
      unfold Lib.itoa
      rw [if_neg (by omega), Int.toNat_natCast, h2]
  · rintro ⟨hz, rfl⟩
    unfold Lib.itoa
    by_cases h0 : z < 0
    · rw [if_pos h0, List.head?_cons, if_pos rfl, List.tail_cons, (numR_iff 9223372036854775808 (by omega) _ z.natAbs).2 ⟨by omega, rfl⟩]
      simp only
      rw [if_pos (by omega)]
      congr 1
      omega
    · rw [if_neg h0]
      have hne : (Lib.decDigits z.toNat).head? ≠ some 45 := by
        intro h
        rcases e : Lib.decDigits z.toNat with _ | ⟨c, r⟩
        · rw [e] at h; cases h
        · have hd := (numR_iff 9223372036854775807 (by omega) (Lib.decDigits z.toNat) z.toNat).2 ⟨by omega, rfl⟩
          rw [e] at h hd
          simp only [List.head?_cons, Option.some.injEq] at h
          subst h
          unfold numR at hd
          split at hd
          · cases hd
          · rw [valR, if_neg (by decide)] at hd
            cases hd
      rw [if_neg hne, (numR_iff 9223372036854775807 (by omega) _ z.toNat).2 ⟨by omega, rfl⟩, Option.map_some]
      congr 1
      omega
def cutR (c : UInt8) : List UInt8 → Option (List UInt8 × List UInt8)
  | [] => none
  | b :: r => if b = c then some ([], r) else (cutR c r).map fun x => (b :: x.1, x.2)
theorem cutR_at (c : UInt8) (r : List UInt8) : ∀ x : List UInt8, (∀ b ∈ x, b ≠ c) → cutR c (x ++ c :: r) = some (x, r)
  | [], _ => by rw [List.nil_append, cutR, if_pos rfl]
  | b :: x, h => by rw [List.cons_append, cutR, if_neg (h b List.mem_cons_self), cutR_at c r x fun y hy => h y (List.mem_cons_of_mem _ hy)]; rfl
def devR (l : List UInt8) : Option (Nat × Nat) :=
  match cutR 47 l with
  | none => none
  | some (a, b) => match numR 255 a, numR 255 b with
    | some x, some y => some (x, y)
    | _, _ => none
def DevQ (o : Option (Nat × Nat)) (v : Value) : Prop := ∃ x y : Int, 0 ≤ x ∧ x ≤ 255 ∧ 0 ≤ y ∧ y ≤ 255 ∧ v = .tuple #[.agg #[.int .u8 x, .int .u8 y], .bool o.isSome] ∧ ∀ p, o = some p → x = p.1 ∧ y = p.2
end Go.RX.Su

namespace Go.RX.Su
open Go Go.RX Go.Proofs Go.RX.Ln
def hexv (c : UInt8) : Option Nat := if 48 ≤ c.toNat ∧ c.toNat ≤ 57 then some (c.toNat - 48) else if 97 ≤ c.toNat ∧ c.toNat ≤ 102 then some (c.toNat - 87) else none
def runH : List UInt8 → Option Nat → Option (List UInt8)
  | [], none => some []
  | [], some _ => none
  | c :: r, none => match hexv c with
    | none => none
    | some x => runH r (some x)
  | c :: r, some y => match hexv c with
    | none => none
    | some x => (runH r none).map (UInt8.ofNat (16 * y + x) :: ·)
def unhexR (l : List UInt8) : Option (List UInt8) := if l = [45] then some [] else if l.length = 0 ∨ l.length % 2 = 1 then none else runH l none
def byF (l : List UInt8) : Nat → Int := fun j => ((l.getD j 0).toNat : Int)
def byC (l : List UInt8) : List Value := tabL l.length [colI .u8 1 (byF l)]
theorem tab_bytes (l : List UInt8) (A : Nat → Int) (h : ∀ j, j < l.length → A j = byF l j) : tabL l.length [colI .u8 1 A] = byC l := by
  show tabF (fun i => [colI .u8 1 A].flatMap fun c => c i) l.length = tabF (fun i => [colI .u8 1 (byF l)].flatMap fun c => c i) l.length
  refine tabF_congr fun i hi => ?_
  simp [colI, segCells, h i hi]
theorem Ent.nilSli (t s : Nat) : Ent [] [sliHP true t s (.slice none 0 0) 0 []] := by
  intro w Fs ⟨S, hS⟩
  refine ⟨fun i => match i with | 0 => fun _ => False | i + 1 => S i, ⟨?_, ?_⟩⟩
  · intro i x hx
    match i, hx with
    | 0, hx =>
      simp at hx
      subst hx
      exact ⟨⟨by simp only [if_true]; exact ownsAt_nil w t s, fun k => ⟨False.elim, fun h => by simp [Value.ownBlock] at h⟩⟩, fun k h => h.elim⟩
    | i + 1, hx => exact hS.at_ i x (by simpa using hx)
  · intro i j x y hne hx hy hw k
    match i, j, hne, hx, hy with
    | 0, _, _, _, _ => exact fun h => h.elim
    | i + 1, 0, _, _, _ => exact fun _ h => h
    | i + 1, j + 1, hne, hx, hy => exact hS.apart i j x y (by omega) (by simpa using hx) (by simpa using hy) hw k
def UnQ (o : Option (List UInt8)) (x : Value) (hs : List HP) : Prop :=
  match o with
  | some bs => ∃ e : Int, x = .tuple #[bslV e, .bool true] ∧ hs = [sliHP true 5 1 (bslV e) bs.length (byC bs)]
  | none => x = .tuple #[bslV 0, .bool false] ∧ hs = []
def UnV (o : Option (List UInt8)) (x : Value) (hs : List HP) : Prop :=
  match o with
  | some bs => ∃ v : V1, x = .tuple #[v.v, .bool true] ∧ hs = [sliHP true 5 1 v.v bs.length (byC bs)]
  | none => x = .tuple #[.slice none 0 0, .bool false] ∧ hs = []
theorem unhexR_some (l : List UInt8) (h1 : l ≠ [45]) (h2 : ¬ (l.length = 0 ∨ l.length % 2 = 1)) : unhexR l = runH l none := by
  unfold unhexR
  rw [if_neg h1, if_neg h2]
theorem hexv_lt (c : UInt8) {x : Nat} (h : hexv c = some x) : x < 16 := by
  unfold hexv at h
  split at h
  · cases h; omega
  · split at h
    · cases h; omega
    · cases h
theorem byF_put (bs : List UInt8) (A : Nat → Int) (x : Int) (hx : 0 ≤ x ∧ x ≤ 255) (hA : ∀ j, j < bs.length → A j = byF bs j) : ∀ j, j < (bs ++ [UInt8.ofNat x.toNat]).length → updF A bs.length x j = byF (bs ++ [UInt8.ofNat x.toNat]) j := by
  intro j hj
  simp only [List.length_append, List.length_singleton] at hj
  unfold updF byF
  by_cases h : j = bs.length
  · subst h
    rw [if_pos rfl, List.getD_eq_getElem?_getD, List.getElem?_append_right (by omega), Nat.sub_self]
    simp only [List.getElem?_cons_zero, Option.getD_some]
    rw [UInt8.toNat_ofNat']
    omega
  · rw [if_neg h, hA j (by omega), byF, List.getD_eq_getElem?_getD, List.getD_eq_getElem?_getD, List.getElem?_append_left (by omega)]
theorem runH_digit (l : List UInt8) (q : Nat) (hq : q < l.length) (h : Option Nat) (x : Nat) (hx : hexv (l[q]'hq) = some x) :
    runH (l.drop q) h = match h with | none => runH (l.drop (q + 1)) (some x) | some y => (runH (l.drop (q + 1)) none).map (UInt8.ofNat (16 * y + x) :: ·) := by
  rw [List.drop_eq_getElem_cons hq]
  cases h <;> simp only [runH, hx]
theorem runH_bad (l : List UInt8) (q : Nat) (hq : q < l.length) (h : Option Nat) (hx : hexv (l[q]'hq) = none) : runH (l.drop q) h = none := by
  rw [List.drop_eq_getElem_cons hq]
  cases h <;> simp only [runH, hx]
structure HexI (l : List UInt8) (q d m : Int) (A : Nat → Int) (bs : List UInt8) : Prop where
  q0 : 0 ≤ q
  q1 : q ≤ l.length
  hm : m = bs.length
  mq : 2 * m ≤ q
  d0 : 0 ≤ d
  d1 : d < 16
  de : q % 2 = 0 → d = 0
  hA : ∀ j, j < bs.length → A j = byF bs j
  run : (runH (l.drop q.toNat) (if q % 2 = 0 then none else some d.toNat)).map (bs ++ ·) = runH l none
theorem HexI.odd {l : List UInt8} {q d m : Int} {A : Nat → Int} {bs : List UInt8} (h : HexI l q d m A bs) (hq : q.toNat < l.length) {x : Nat} (hx : hexv (l[q.toNat]'hq) = some x) (ho : q % 2 = 1) :
    HexI l (q + 1) 0 (m + 1) (updF A m.toNat (16 * d + x)) (bs ++ [UInt8.ofNat (16 * d + x).toNat]) := by
  have h0 := h.q0
  have h2 := hexv_lt _ hx
  have h3 := h.d0
  have h4 := h.d1
  have h5 := h.mq
  have h6 := h.hm
  refine ⟨by omega, by omega, by simp; omega, by omega, by omega, by omega, fun _ => rfl, ?_, ?_⟩
  · rw [show m.toNat = bs.length by omega]
    exact byF_put bs A (16 * d + x) (by omega) h.hA
  · rw [← h.run, runH_digit l _ hq _ x hx, if_pos (by omega), if_neg (by omega), show (q + 1).toNat = q.toNat + 1 by omega]
    simp only [Option.map_map]
    congr 1
    funext t
    simp only [Function.comp, List.append_assoc, List.singleton_append]
    rw [show (16 * d + (x : Int)).toNat = 16 * d.toNat + x by omega]
theorem HexI.even {l : List UInt8} {q d m : Int} {A : Nat → Int} {bs : List UInt8} (h : HexI l q d m A bs) (hq : q.toNat < l.length) {x : Nat} (hx : hexv (l[q.toNat]'hq) = some x) (ho : q % 2 = 0) :
    HexI l (q + 1) (16 * d + x) m A bs := by
  have h0 := h.q0
  have h2 := hexv_lt _ hx
  have h3 := h.de ho
  have h5 := h.mq
  refine ⟨by omega, by omega, h.hm, by omega, by omega, by omega, fun _ => by omega, h.hA, ?_⟩
  rw [← h.run, runH_digit l _ hq _ x hx, if_neg (by omega), if_pos ho, show (q + 1).toNat = q.toNat + 1 by omega, show (16 * d + (x : Int)).toNat = x by omega]
end Go.RX.Su

namespace Go.RX.Su
open Go Go.RX Go.Proofs Go.RX.Ln
def wordsG : List UInt8 → List UInt8 → List (List UInt8)
  | [], w => if w = [] then [] else [w]
  | c :: r, w => if c ≠ 32 ∧ c ≠ 35 then wordsG r (w ++ [c]) else (if w = [] then [] else [w]) ++ (if c = 35 then [] else wordsG r [])
def wordsR (l : List UInt8) : List (List UInt8) := wordsG l []
theorem fm1 (f : Nat → Value) (l : List Nat) : l.flatMap (fun i => [f i]) = l.map f := by
  induction l with
  | nil => rfl
  | cons a l ih => rw [List.flatMap_cons, ih]; rfl
theorem tab_strs (xs : List (List UInt8)) (A : Nat → Int) (h : ∀ j, j < xs.length → strD (at2F A j) = xs.getD j []) : tabL xs.length [colV 1 (fun j => .string ⟨(strD (at2F A j)).toArray⟩)] = xs.map strV := by
  have : tabL xs.length [colV 1 (fun j => .string ⟨(strD (at2F A j)).toArray⟩)] = (List.range xs.length).map fun i => .string ⟨(strD (at2F A i)).toArray⟩ := by
    unfold tabL
    simp only [List.flatMap_cons, List.flatMap_nil, List.append_nil, colV]
    rw [← fm1]
    simp
  rw [this]
  apply List.ext_getElem?
  intro i
  rw [List.getElem?_map, List.getElem?_map]
  by_cases hi : i < xs.length
  · rw [List.getElem?_range hi, List.getElem?_eq_getElem hi, Option.map_some, Option.map_some, h i hi, List.getD_eq_getElem?_getD, List.getElem?_eq_getElem hi]
    rfl
  · rw [List.getElem?_eq_none (by simpa using hi), List.getElem?_eq_none (by simpa using hi)]
    rfl
end Go.RX.Su

namespace Go.RX.Su
open Go Go.RX Go.Proofs Go.RX.Ln
structure Mv where
  k : Int
  d1 : Int
  d2 : Int
  p1 : Int
  p2 : Int
  n : Int
  c : Int
  b : List UInt8
def Mv.z (k : Int) : Mv := ⟨k, 0, 0, 0, 0, 0, 0, []⟩
def mvV (m : Mv) (e : Int) : Value := .agg #[.int .u8 m.k, .int .u8 m.d1, .int .u8 m.d2, .int .u8 m.p1, .int .u8 m.p2, .int .i64 m.n, .int .u64 m.c, bslV e]
def fieldR (f : UInt8) (m : Mv) (s : List UInt8) : Option Mv :=
  if f = 100 then (devR s).map fun p => { m with d1 := p.1, d2 := p.2 }
  else if f = 112 then (devR s).map fun p => { m with p1 := p.1, p2 := p.2 }
  else if f = 110 then (wholeR s).map fun z => { m with n := z }
  else if f = 99 then (numR 18446744073709551615 s).map fun u => { m with c := u }
  else (unhexR s).map fun b => { m with b := b }
def fieldsR : List UInt8 → List (List UInt8) → Mv → Option Mv
  | [], _, m => some m
  | f :: fs, ws, m => match fieldR f m (ws.headD []) with
    | none => none
    | some m' => fieldsR fs ws.tail m'
abbrev RO := Sum Int Mv
def finR : Option Mv → RO
  | none => .inl 5
  | some m => .inr m
def formsL : List (Int × List UInt8 × List UInt8) :=
  [(1, [100, 105, 97, 108], [100, 110]), (2, [97, 110, 115, 119, 101, 114], [100]), (3, [100, 101, 99, 108, 105, 110, 101], [100]), (4, [104, 97, 110, 103], [100]), (5, [116, 105, 99, 107], [110]),
   (6, [100, 101, 108, 105, 118, 101, 114], [110]), (7, [100, 114, 111, 112], [110]), (8, [100, 111, 117, 98, 108, 101], [110]), (9, [116, 97, 109, 112, 101, 114], [110, 99]), (10, [105, 110, 106, 101, 99, 116], [100, 98]),
   (11, [99, 114, 101, 97, 116, 101], [100]), (12, [97, 100, 100], [100, 112]), (13, [107, 105, 99, 107], [100, 112]), (14, [108, 101, 97, 118, 101], [100]), (15, [102, 114, 97, 109, 101], [100, 98])]
def oneG : List (Int × List UInt8 × List UInt8) → List (List UInt8) → RO
  | [], _ => .inl 2
  | (k, w, fs) :: r, ws => if w = ws.getD 0 [] then (if ws.length ≠ 1 + fs.length then .inl 2 else finR (fieldsR fs ws.tail (Mv.z k))) else oneG r ws
def oneR (ws : List (List UInt8)) : RO := oneG formsL ws
abbrev BSet := List (Int × List UInt8)
def bHP (p : Int × List UInt8) : HP := sliHP true 5 1 (bslV p.1) p.2.length (byC p.2)
def setHP (K : BSet) : HP := HP.star (K.map bHP)
theorem Ent.grow (K : BSet) (p : Int × List UInt8) : Ent [bHP p, setHP K] [setHP (K ++ [p])] := by
  have h1 : Ent [bHP p, setHP K] (K.map bHP ++ [bHP p]) :=
    Ent.trans (Ent.perm (List.Perm.swap _ _ _)) (Ent.frame (Ent.unstar (K.map bHP)) [bHP p])
  have h2 : Ent ((K ++ [p]).map bHP) [setHP (K ++ [p])] := Ent.star fun h hm => by
    rw [List.mem_map] at hm
    obtain ⟨q, _, rfl⟩ := hm
    rfl
  rw [List.map_append] at h2
  exact h1.trans h2
def Grow (K K' : BSet) (e : Int) (b : List UInt8) : Prop := (K' = K ∧ e = 0 ∧ b = []) ∨ K' = K ++ [(e, b)]
def UnS (K : BSet) (o : Option (List UInt8)) (x : Value) (hs : List HP) : Prop :=
  match o with
  | some bs => ∃ e : Int, x = .tuple #[bslV e, .bool true] ∧ hs = [setHP (K ++ [(e, bs)])]
  | none => x = .tuple #[bslV 0, .bool false] ∧ hs = [setHP K]
end Go.RX.Su

namespace Go.RX.Su
open Go Go.RX Go.Proofs Go.RX.Ln
def tabO (xs : List (List UInt8)) : Nat → Int := fun k => rowS (xs.getD (split2 k).1 []) (split2 k).2
theorem tabO_at (xs : List (List UInt8)) (j : Nat) : strD (at2F (tabO xs) j) = xs.getD j [] := by
  have : at2F (tabO xs) j = rowS (xs.getD j []) := by
    funext k
    simp only [at2F, tabO, split2_pair]
  rw [this, strD_rowS]
theorem ws2 (ws : List (List UInt8)) (h : (ws.length : Int) = 2) : ws.tail = [ws.getD 1 []] := by
  rcases ws with _ | ⟨a, _ | ⟨b, _ | ⟨c, r⟩⟩⟩ <;> simp at h ⊢
  omega
theorem ws3 (ws : List (List UInt8)) (h : (ws.length : Int) = 3) : ws.tail = [ws.getD 1 [], ws.getD 2 []] := by
  rcases ws with _ | ⟨a, _ | ⟨b, _ | ⟨c, _ | ⟨d, r⟩⟩⟩⟩ <;> simp at h ⊢
  omega
end Go.RX.Su

namespace Go.RX.Ln
open Go
def splitL (c : UInt8) : List UInt8 → List (List UInt8)
  | [] => [[]]
  | b :: r => if b = c then [] :: splitL c r else
    match splitL c r with
    | [] => [[b]]
    | x :: xs => (b :: x) :: xs
theorem splitL_ne (c : UInt8) (l : List UInt8) : splitL c l ≠ [] := by
  cases l with
  | nil => simp [splitL]
  | cons b r =>
    simp only [splitL]
    split
    · simp
    · split <;> simp
theorem index_cons (b c : UInt8) (l : List UInt8) : Lib.index (b :: l) [c] = if b = c then 0 else if Lib.index l [c] = -1 then -1 else Lib.index l [c] + 1 := by
  rw [Lib.index]
  by_cases h : b = c
  · simp [h, List.isPrefixOf]
  · simp [h, List.isPrefixOf, Ne.symm h]
theorem index_nil (c : UInt8) : Lib.index [] [c] = -1 := by rw [Lib.index]; simp
theorem splitL_miss (c : UInt8) : ∀ l : List UInt8, Lib.index l [c] = -1 → splitL c l = [l]
  | [], _ => rfl
  | b :: r, h => by
    rw [index_cons] at h
    by_cases hb : b = c
    · rw [if_pos hb] at h; cases h
    · rw [if_neg hb] at h
      by_cases hr : Lib.index r [c] = -1
      · simp only [splitL, if_neg hb, splitL_miss c r hr]
      · rw [if_neg hr] at h
        have := Lib.index_ge r [c]
        omega
theorem splitL_hit (c : UInt8) : ∀ (l : List UInt8) (i : Nat), Lib.index l [c] = i → splitL c l = l.take i :: splitL c (l.drop (i + 1))
  | [], i, h => by rw [index_nil] at h; omega
  | b :: r, i, h => by
    rw [index_cons] at h
    by_cases hb : b = c
    · rw [if_pos hb] at h
      obtain rfl : i = 0 := by omega
      simp [splitL, hb]
    · rw [if_neg hb] at h
      by_cases hr : Lib.index r [c] = -1
      · rw [if_pos hr] at h; omega
      · rw [if_neg hr] at h
        have hg := Lib.index_ge r [c]
        obtain ⟨j, rfl⟩ : ∃ j, i = j + 1 := ⟨i - 1, by omega⟩
        have := splitL_hit c r j (by omega)
        simp only [splitL, if_neg hb, this, List.take_succ_cons, List.drop_succ_cons]
theorem splitL_one (c : UInt8) : ∀ x : List UInt8, c ∉ x → splitL c x = [x]
  | [], _ => rfl
  | b :: r, h => by
    have hb : b ≠ c := fun e => h (by simp [e])
    simp only [splitL, if_neg hb, splitL_one c r (fun hr => h (List.mem_cons_of_mem _ hr))]
theorem splitL_app (c : UInt8) (r : List UInt8) : ∀ x : List UInt8, c ∉ x → splitL c (x ++ c :: r) = x :: splitL c r
  | [], _ => by simp [splitL]
  | b :: x, h => by
    have hb : b ≠ c := fun e => h (by simp [e])
    simp only [List.cons_append, splitL, if_neg hb, splitL_app c r x (fun hr => h (List.mem_cons_of_mem _ hr))]
end Go.RX.Ln

namespace Go.RX.Sv
open Go Go.RX Go.Proofs Go.RX.Ln Go.RX.Su
abbrev RR := List (Mv × Int) × Int × Int
def goR : List (List UInt8) → Int → List (Mv × Int) → RR
  | [], _, acc => (acc, 0, 0)
  | s :: r, n, acc => if wordsR s = [] then goR r (n + 1) acc else
    match oneR (wordsR s) with
    | .inl z => (acc, n, z)
    | .inr m => if acc.length = 1000 then (acc, n, 3) else goR r (n + 1) (acc ++ [(m, n)])
def readR (l : List UInt8) : RR := goR (splitL 10 l) 1 []
theorem oneG_err : ∀ (fs : List (Int × List UInt8 × List UInt8)) (ws : List (List UInt8)) (z : Int), oneG fs ws = .inl z → z = 2 ∨ z = 5
  | [], ws, z, h => by cases h; exact .inl rfl
  | (k, w, f) :: r, ws, z, h => by
    rw [oneG] at h
    split at h
    · split at h
      · cases h; exact .inl rfl
      · unfold finR at h
        split at h
        · cases h; exact .inr rfl
        · cases h
    · exact oneG_err r ws z h
theorem wordsG_len : ∀ (r w x : List UInt8), x ∈ wordsG r w → x.length ≤ r.length + w.length
  | [], w, x, h => by
    rw [wordsG] at h
    split at h
    · cases h
    · rw [List.mem_singleton] at h; subst h; simp
  | c :: r, w, x, h => by
    rw [wordsG] at h
    split at h
    · have := wordsG_len r (w ++ [c]) x h
      simp at this ⊢
      omega
    · rw [List.mem_append] at h
      rcases h with h | h
      · split at h
        · cases h
        · rw [List.mem_singleton] at h; subst h; simp
      · split at h
        · cases h
        · have := wordsG_len r [] x h
          simp at this ⊢
          omega
def Has (K : BSet) (e : Int) (b : List UInt8) : Prop := (e = 0 ∧ b = []) ∨ (e, b) ∈ K
theorem Grow.has {K K' : BSet} {e : Int} {b : List UInt8} (h : Grow K K' e b) : Has K' e b ∧ ∀ p ∈ K, p ∈ K' := by
  rcases h with ⟨rfl, rfl, rfl⟩ | rfl
  · exact ⟨.inl ⟨rfl, rfl⟩, fun _ h => h⟩
  · exact ⟨.inr (by simp), fun _ h => List.mem_append_left _ h⟩
def Row (K : BSet) (x : Mv × Int) (a1 a2 a3 a4 a5 a6 a7 a8 a9 : Int) : Prop :=
  (a1 = x.1.k ∧ a2 = x.1.d1 ∧ a3 = x.1.d2 ∧ a4 = x.1.p1 ∧ a5 = x.1.p2 ∧ a6 = x.1.n ∧ a7 = x.1.c) ∧ Has K a8 x.1.b ∧ a9 = x.2
def TabI (K : BSet) (xs : List (Mv × Int)) (A1 A2 A3 A4 A5 A6 A7 A8 A9 : Nat → Int) : Prop :=
  ∀ j x, xs[j]? = some x → Row K x (A1 j) (A2 j) (A3 j) (A4 j) (A5 j) (A6 j) (A7 j) (A8 j) (A9 j)
theorem TabI.put {K K' : BSet} {xs : List (Mv × Int)} {A1 A2 A3 A4 A5 A6 A7 A8 A9 : Nat → Int} (h : TabI K xs A1 A2 A3 A4 A5 A6 A7 A8 A9) (hK : ∀ p ∈ K, p ∈ K') {x : Mv × Int} {a1 a2 a3 a4 a5 a6 a7 a8 a9 : Int}
    (hx : Row K' x a1 a2 a3 a4 a5 a6 a7 a8 a9) : TabI K' (xs ++ [x]) (updF A1 xs.length a1) (updF A2 xs.length a2) (updF A3 xs.length a3) (updF A4 xs.length a4) (updF A5 xs.length a5) (updF A6 xs.length a6) (updF A7 xs.length a7) (updF A8 xs.length a8) (updF A9 xs.length a9) := by
  intro j y hy
  by_cases hj : j = xs.length
  · subst hj
    simp at hy
    subst hy
    simp only [updF, if_true]
    exact hx
  · have hlt : j < xs.length := by
      have := (List.getElem?_eq_some_iff.1 hy).1
      simp at this
      omega
    rw [List.getElem?_append_left hlt] at hy
    simp only [updF, if_neg hj]
    obtain ⟨h1, h2, h3⟩ := h j y hy
    exact ⟨h1, h2.imp id (hK _), h3⟩
def tabM (n : Nat) (A1 A2 A3 A4 A5 A6 A7 A8 : Nat → Int) : List Value := tabL n [colI .u8 1 A1, colI .u8 1 A2, colI .u8 1 A3, colI .u8 1 A4, colI .u8 1 A5, colI .i64 1 A6, colI .u64 1 A7, colV 1 (fun j => bslV (A8 j))]
end Go.RX.Sv
