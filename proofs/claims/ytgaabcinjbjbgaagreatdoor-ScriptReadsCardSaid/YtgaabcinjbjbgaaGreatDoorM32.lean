/- Reading of moves, the document's side: whole numbers, devices. · Contracts of the library, laid at this program by the shelf (plain mode); kept are those that are used. · Contracts of the library, laid at this program by the shelf (plain mode); kept are those that are used. -/
import Derived.Test.YtgaabcinjbjbgaaGreatDoorM31
import Derived.Lib.ItoaNum
import Derived.Shelf.Strings.Builder1
import Derived.Shelf.Small.Strs
import Derived.Shelf.Strconv.Itoa0
import Derived.Shelf.Strconv.Itoa1
import Derived.Shelf.LaysM
import Derived.Shelf.Strconv.Itoa2
import Derived.Shelf.Strconv.Itoa3
import Derived.Shelf.Strings.Search1
import Derived.Shelf.Strings.Search2
import Derived.Shelf.Strings.Search3
import Derived.Shelf.Strings.Cut
import Derived.Shelf.Strings.Count
import Derived.Shelf.Strings.Split
import Derived.Test.YtgaabcinjbjbgaaGreatDoorProg
import Derived.Shelf.Strings.Builder2
import Derived.Shelf.Strings.OnBuilder

namespace Go.RX.Su
open Go Go.RX Go.Proofs Go.RX.Ln
theorem strD_of (f : Nat → Int) (l : List UInt8) (h0 : f 0 = l.length) (h : ∀ j (hj : j < l.length), f (j + 1) = ((l[j]'hj).toNat : Int)) : strD f = l := by
  apply List.ext_getElem?
  intro j
  simp only [strD, h0, Int.toNat_natCast, List.getElem?_map]
  by_cases hj : j < l.length
  · rw [List.getElem?_range hj, List.getElem?_eq_getElem hj]
    simp [h j hj]
  · rw [List.getElem?_eq_none (by simp; omega), List.getElem?_eq_none (by omega)]
    rfl
theorem rowS_at (l : List UInt8) (j : Nat) (h : j < l.length) : rowS l (j + 1) = ((l[j]'h).toNat : Int) := by
  rw [rowS, List.getD_eq_getElem?_getD, List.getElem?_eq_getElem h, Option.getD_some]
theorem mid_rowS (l : List UInt8) (a b : Nat) (h : a ≤ b) (hb : b ≤ l.length) : strD (updF (shiftF (rowS l) a) 0 ((b : Int) - a)) = (l.drop a).take (b - a) := by
  refine strD_of _ _ ?_ fun j hj => ?_
  · rw [List.length_take, List.length_drop, updF, if_pos rfl]
    omega
  · rw [List.length_take, List.length_drop] at hj
    rw [updF, if_neg (by omega), shiftF, show a + (j + 1) = a + j + 1 by omega, rowS_at l (a + j) (by omega), List.getElem_take, List.getElem_drop]
theorem take_rowS (l : List UInt8) (m : Nat) (h : m ≤ l.length) : strD (updF (rowS l) 0 m) = l.take m := by
  refine strD_of _ _ ?_ fun j hj => ?_
  · rw [List.length_take, updF, if_pos rfl]
    omega
  · rw [List.length_take] at hj
    rw [updF, if_neg (by omega), rowS_at l j (by omega), List.getElem_take]
theorem drop_rowS (l : List UInt8) (k : Nat) (h : k ≤ l.length) : strD (updF (shiftF (rowS l) k) 0 ((l.length : Int) - k)) = l.drop k := by
  rw [mid_rowS l k l.length h (Nat.le_refl _), List.take_of_length_le (by rw [List.length_drop]; omega)]
def wholeR (l : List UInt8) : Option Int :=
  if l.head? = some 45 then (match numR 9223372036854775808 l.tail with | some n => if 0 < n then some (-(n : Int)) else none | none => none)
  else Option.map (fun n : Nat => (n : Int)) (numR 9223372036854775807 l)
def wholeQ (o : Option Int) : Value := .tuple #[.int .i64 (o.getD 0), .bool o.isSome]
theorem wholeR_iff (l : List UInt8) (z : Int) : wholeR l = some z ↔ (-9223372036854775808 ≤ z ∧ z ≤ 9223372036854775807) ∧ l = Lib.itoa z := by
  unfold wholeR
  constructor
  · intro h
    split at h
    · rename_i hh
      rcases l with _ | ⟨c, r⟩
      · cases hh
      · simp only [List.head?_cons, Option.some.injEq] at hh
        subst hh
        rw [List.tail_cons] at h
        split at h
        · rename_i n hn
          obtain ⟨h1, h2⟩ := (numR_iff _ (by omega) _ _).1 hn
          split at h
          · rename_i h0
            rw [Option.some.injEq] at h
            subst h
            refine ⟨by omega, ?_⟩
            unfold Lib.itoa
            rw [if_pos (by omega), show (-(n : Int)).natAbs = n by omega, h2]
          · cases h
        · cases h
    · rw [Option.map_eq_some_iff] at h
      obtain ⟨n, hn, rfl⟩ := h
      obtain ⟨h1, h2⟩ := (numR_iff _ (by omega) _ _).1 hn
      refine ⟨by omega, ?_⟩
      unfold Lib.itoa
      rw [if_neg (by omega), Int.toNat_natCast, h2]
  · rintro ⟨hz, rfl⟩
    unfold Lib.itoa
    by_cases h0 : z < 0
    · rw [if_pos h0, List.head?_cons, if_pos rfl, List.tail_cons, (numR_iff 9223372036854775808 (by omega) _ z.natAbs).2 ⟨by omega, rfl⟩]
      simp only
      rw [if_pos (by omega)]
      congr 1
      omega
    · rw [if_neg h0]
      have hne : (Lib.decDigits z.toNat).head? ≠ some 45 := by
        intro h
        rcases e : Lib.decDigits z.toNat with _ | ⟨c, r⟩
        · rw [e] at h; cases h
        · have hd := (numR_iff 9223372036854775807 (by omega) (Lib.decDigits z.toNat) z.toNat).2 ⟨by omega, rfl⟩
          rw [e] at h hd
          simp only [List.head?_cons, Option.some.injEq] at h
          subst h
          unfold numR at hd
          split at hd
          · cases hd
          · rw [valR, if_neg (by decide)] at hd
            cases hd
      rw [if_neg hne, (numR_iff 9223372036854775807 (by omega) _ z.toNat).2 ⟨by omega, rfl⟩, Option.map_some]
      congr 1
      omega
theorem i64_u64 (x : Int) (h : 0 ≤ x ∧ x ≤ 9223372036854775808) : IntKind.wrap .i64 (IntKind.wrap .u64 (0 - x)) = -x := by
  simp only [IntKind.wrap, IntKind.bits, IntKind.signed]
  simp
  omega
theorem rwhole_meets (l : List UInt8) (hl : l.length ≤ 4611686018427387904) : Meets Tryz.prog 66 [strV l] [] (fun v hs => v = wholeQ (wholeR l) ∧ hs = []) := by
  have e0 : strV l = (SV.strE (.avar 0)).val { av := [rowS l] } := strV_row l
  rw [e0]
  refine Meets.of_bare (C := cxN) (cnt := { a := 1 }) (ρ := { av := [rowS l] }) okT okFT okM Tryz.func66 (by constructor <;> rfl) (fun v => v = wholeQ (wholeR l))
    (args := [.strE (.avar 0)]) run_rwhole (vc_rwhole Tryz.prog (fun v _ => v = wholeQ (wholeR l)) (rowS l) (fun _ => LC.none)) ?_
  unfold st_rwhole
  rw [rowS0]
  refine ⟨by omega, fun _ => ⟨by omega, fun _ => ⟨fun h => ⟨by omega, fun _ => ?_⟩, fun h => ?_⟩⟩⟩
  · rcases l with _ | ⟨c, r⟩
    · simp at h
    · have hb := sby_row (c :: r) 0 (by simp)
      rw [List.getElem_cons_zero, h.2] at hb
      have hc : c = 45 := UInt8.toNat_inj.1 (by have e : (45 : UInt8).toNat = 45 := rfl; omega)
      subst hc
      have ed := drop_rowS (45 :: r) 1 (by simp)
      rw [List.drop_one, List.tail_cons] at ed
      rw [show ((1 : Nat) : Int) = 1 from rfl] at ed
      rw [ed]
      refine ⟨_, rnum_meets r 9223372036854775808 (by omega) (by simp only [List.length_cons] at hl; omega), ?_⟩
      rintro x hs ⟨rfl, rfl⟩
      refine ⟨_, _, rfl, rfl, ?_⟩
      show _ = wholeQ _
      unfold wholeR
      rw [List.head?_cons, if_pos rfl, List.tail_cons]
      rcases hn : numR 9223372036854775808 r with _ | n
      · rfl
      · have h1 := ((numR_iff _ (by omega) _ _).1 hn).1
        rw [Option.getD_some, i64_u64 _ (by omega)]
        by_cases h0 : 0 < n
        · unfold wholeQ
          simp [h0]
        · have : n = 0 := by omega
          subst this
          rfl
  · rw [strD_rowS]
    refine ⟨_, rnum_meets l 9223372036854775807 (by omega) hl, ?_⟩
    rintro x hs ⟨rfl, rfl⟩
    have hw : wholeR l = Option.map (fun n : Nat => (n : Int)) (numR 9223372036854775807 l) := by
      unfold wholeR
      rw [if_neg]
      intro hh
      rcases l with _ | ⟨c, r⟩
      · cases hh
      · simp only [List.head?_cons, Option.some.injEq] at hh
        subst hh
        apply h
        rw [sby_row _ 0 (by simp)]
        exact ⟨by simp only [List.length_cons]; omega, rfl⟩
    refine ⟨_, _, rfl, rfl, ?_⟩
    rcases hn : numR 9223372036854775807 l with _ | n
    · refine ⟨by simp, fun _ => ⟨by simp, fun _ => ?_⟩⟩
      show _ = wholeQ _
      rw [hw, hn]
      rfl
    · have h1 := ((numR_iff _ (by omega) _ _).1 hn).1
      rw [Option.getD_some]
      refine ⟨by omega, fun _ => ⟨by omega, fun _ => ?_⟩⟩
      show _ = wholeQ _
      rw [hw, hn]
      rfl
/-- What lies ahead of the first sign of its kind, and behind it. -/
def cutR (c : UInt8) : List UInt8 → Option (List UInt8 × List UInt8)
  | [] => none
  | b :: r => if b = c then some ([], r) else (cutR c r).map fun x => (b :: x.1, x.2)
theorem cutR_none (c : UInt8) : ∀ l : List UInt8, (∀ b ∈ l, b ≠ c) → cutR c l = none
  | [], _ => rfl
  | b :: r, h => by rw [cutR, if_neg (h b List.mem_cons_self), cutR_none c r fun x hx => h x (List.mem_cons_of_mem _ hx)]; rfl
theorem cutR_at (c : UInt8) (r : List UInt8) : ∀ x : List UInt8, (∀ b ∈ x, b ≠ c) → cutR c (x ++ c :: r) = some (x, r)
  | [], _ => by rw [List.nil_append, cutR, if_pos rfl]
  | b :: x, h => by rw [List.cons_append, cutR, if_neg (h b List.mem_cons_self), cutR_at c r x fun y hy => h y (List.mem_cons_of_mem _ hy)]; rfl
def devR (l : List UInt8) : Option (Nat × Nat) :=
  match cutR 47 l with
  | none => none
  | some (a, b) => match numR 255 a, numR 255 b with
    | some x, some y => some (x, y)
    | _, _ => none
/-- A device, and whether it is one; none's first numbers may be anything. -/
def DevQ (o : Option (Nat × Nat)) (v : Value) : Prop := ∃ x y : Int, 0 ≤ x ∧ x ≤ 255 ∧ 0 ≤ y ∧ y ≤ 255 ∧ v = .tuple #[.agg #[.int .u8 x, .int .u8 y], .bool o.isSome] ∧ ∀ p, o = some p → x = p.1 ∧ y = p.2
theorem numR_le (M : Nat) (hM : M < 18446744073709551616) (l : List UInt8) : (numR M l).getD 0 ≤ M := by
  rcases h : numR M l with _ | n
  · exact Nat.zero_le _
  · exact ((numR_iff M hM l n).1 h).1
theorem rdev_meets (l : List UInt8) (hl : l.length ≤ 4611686018427387904) : Meets Tryz.prog 65 [strV l] [] (fun v hs => DevQ (devR l) v ∧ hs = []) := by
  have e0 : strV l = (SV.strE (.avar 0)).val { av := [rowS l] } := strV_row l
  rw [e0]
  refine Meets.of_bare (C := cxN) (cnt := { a := 1 }) (ρ := { av := [rowS l] }) okT okFT okM Tryz.func65 (by constructor <;> rfl) (fun v => DevQ (devR l) v)
    (args := [.strE (.avar 0)]) run_rdev (vc_rdev Tryz.prog (fun v _ => DevQ (devR l) v) (rowS l) (fun _ => LC.none)) ?_
  unfold st_rdev
  rw [rowS0]
  refine fun _ => ⟨fun e => let p := e.i.getD 0 0; 0 ≤ p ∧ p ≤ l.length ∧ ∀ j (hj : j < l.length), (j : Int) < p → l[j]'hj ≠ 47, fun e => ((l.length : Int) - e.i.getD 0 0).toNat,
    ⟨0, rfl, by simp; intro j _ h; omega⟩, ?_⟩
  rintro p ⟨hp0, hp1, hne⟩
  simp only [List.getD_cons_zero] at hp0 hp1 hne
  refine ⟨by omega, fun _ => ⟨by omega, fun _ => ⟨by omega, fun _ => ⟨fun h => ?_, fun h => ?_⟩⟩⟩⟩
  · rw [sby_row l _ (by omega)] at h
    refine ⟨by omega, fun _ => ⟨by omega, fun _ => ⟨p + 1, rfl, ⟨?_, ?_, ?_⟩, ?_⟩⟩⟩
    all_goals simp only [List.getD_cons_zero]
    · omega
    · omega
    · intro j hj hlt
      by_cases hjp : (j : Int) < p
      · exact hne j hj hjp
      · have : j = p.toNat := by omega
        subst this
        intro hc
        rw [hc] at h
        exact h.2 rfl
    · omega
  · have hmem : ∀ b ∈ l.take p.toNat, b ≠ 47 := by
      intro b hb
      obtain ⟨j, hj, rfl⟩ := List.getElem_of_mem hb
      rw [List.length_take] at hj
      rw [List.getElem_take]
      exact hne j (by omega) (by omega)
    refine ⟨fun hpe => ?_, fun hpe => ⟨hp0, fun _ => ⟨hp1, fun _ => ?_⟩⟩⟩
    · rw [List.take_of_length_le (by omega)] at hmem
      refine ⟨0, 0, by omega, by omega, by omega, by omega, ?_, ?_⟩
      · rw [devR, cutR_none 47 l hmem]; rfl
      · intro q hq; rw [devR, cutR_none 47 l hmem] at hq; cases hq
    · have hpl : p.toNat < l.length := by omega
      rw [sby_row l _ hpl] at h
      have hc : l[p.toNat]'hpl = 47 := by
        refine Classical.byContradiction fun hc => h ⟨by omega, fun hx => hc (UInt8.toNat_inj.1 ?_)⟩
        have e : (47 : UInt8).toNat = 47 := rfl
        omega
      have hcut : cutR 47 l = some (l.take p.toNat, l.drop (p.toNat + 1)) := by
        have := cutR_at 47 (l.drop (p.toNat + 1)) (l.take p.toNat) hmem
        have e : l.take p.toNat ++ 47 :: l.drop (p.toNat + 1) = l := by
          rw [← hc, ← List.drop_eq_getElem_cons hpl, List.take_append_drop]
        rwa [e] at this
      have e1 : strD (updF (rowS l) 0 p) = l.take p.toNat := by
        have := take_rowS l p.toNat (by omega)
        rwa [show ((p.toNat : Nat) : Int) = p by omega] at this
      have e2 : strD (updF (shiftF (rowS l) (p + 1).toNat) 0 ((l.length : Int) - (p + 1))) = l.drop (p.toNat + 1) := by
        have := drop_rowS l (p.toNat + 1) (by omega)
        rw [show (((p.toNat + 1 : Nat)) : Int) = p + 1 by omega] at this
        rw [show (p + 1).toNat = p.toNat + 1 by omega]
        exact this
      rw [e1]
      refine ⟨_, rnum_meets _ 255 (by omega) (by rw [List.length_take]; omega), ?_⟩
      rintro x hs ⟨rfl, rfl⟩
      refine ⟨_, _, rfl, rfl, by omega, fun _ => ⟨by omega, fun _ => ⟨by omega, fun _ => ⟨by omega, fun _ => ?_⟩⟩⟩⟩
      rw [e2]
      refine ⟨_, rnum_meets _ 255 (by omega) (by rw [List.length_drop]; omega), ?_⟩
      rintro x hs ⟨rfl, rfl⟩
      refine ⟨_, _, rfl, rfl, ?_⟩
      have l1 := numR_le 255 (by omega) (l.take p.toNat)
      have l2 := numR_le 255 (by omega) (l.drop (p.toNat + 1))
      have ed : devR l = (match numR 255 (l.take p.toNat), numR 255 (l.drop (p.toNat + 1)) with | some x, some y => some (x, y) | _, _ => none) := by rw [devR, hcut]
      rw [u8_in _ (by omega), u8_in _ (by omega)]
      refine ⟨(((numR 255 (l.take p.toNat)).getD 0 : Nat) : Int), (((numR 255 (l.drop (p.toNat + 1))).getD 0 : Nat) : Int), by omega, by omega, by omega, by omega, ?_, ?_⟩
      · rw [ed]
        rcases numR 255 (l.take p.toNat) with _ | a <;> rcases numR 255 (l.drop (p.toNat + 1)) with _ | b <;> rfl
      · intro q hq
        rw [ed] at hq
        rcases ha : numR 255 (l.take p.toNat) with _ | a
        · rw [ha] at hq; cases hq
        · rcases hb : numR 255 (l.drop (p.toNat + 1)) with _ | b
          · rw [ha, hb] at hq; cases hq
          · rw [ha, hb] at hq
            cases hq
            exact ⟨rfl, rfl⟩
end Go.RX.Su

namespace Go.Proofs
open Go.Shelf
def Tryz.lays137_ren : Go.Shelf.Ren := ⟨fun | 137 => 58 | 217 => 89 | 266 => 112 | n => n, fun | 9 => 9 | 5 => 5 | 3 => 3 | n => n, fun | n => n⟩
theorem Tryz.lays137 : Go.Proofs.Lays.n137 Tryz.prog Tryz.lays137_ren := {
  mixed := by kernel_rfl
  f137 := Tryz.func58.trans (congrArg some (by kernel_rfl))
  f217 := Tryz.func89.trans (congrArg some (by kernel_rfl))
  f266 := Tryz.func112.trans (congrArg some (by kernel_rfl))
  t3 := Tryz.underlying3
  a3 := Tryz.isAgg3
  z3 := Tryz.sizeOf3
  v3 := Tryz.zeroValue3
  t5 := Tryz.underlying5
  a5 := Tryz.isAgg5
  z5 := Tryz.sizeOf5
  v5 := Tryz.zeroValue5
  t9 := Tryz.underlying9
  a9 := Tryz.isAgg9
  z9 := Tryz.sizeOf9
  v9 := Tryz.zeroValue9 }
open Go.RowKit in
/-- strings.IndexByte: "IndexByte returns the index of the first instance of c in s, or -1 if c is not present in s.": IT RETURNS 'Lib.indexByte s c'; the world is az it was. (LAID: no walk: one application.) -/
theorem Tryz.strings_IndexByte (s : ByteArray) (c : Int) (w : World) :
    Calls Tryz.prog 58 #[.string s, .int .u8 c] w fun e w' => e = .returned (.int .i64 (Lib.indexByte s.data.toList c.toNat.toUInt8)) ∧ w' = w := Any.strings_IndexByte Tryz.lays137 s c w
def Tryz.laysM171_ren : Go.Shelf.Ren := ⟨fun | 171 => 35 | 243 => 70 | 246 => 92 | 283 => 119 | 284 => 120 | 285 => 121 | 286 => 122 | 129 => 152 | 317 => 151 | 318 => 153 | 319 => 154 | 320 => 155 | 337 => 172 | 338 => 173 | n => n, fun | 3 => 3 | 9 => 9 | 2 => 2 | 4 => 4 | 171 => 202 | 0 => 0 | 53 => 36 | 37 => 37 | 5 => 5 | 173 => 205 | 212 => 240 | 51 => 241 | 20 => 20 | 213 => 242 | 46 => 116 | 232 => 101 | 233 => 275 | n => n, fun | 17 => 1 | 18 => 6 | 19 => 7 | n => n⟩
theorem Tryz.laysM171 : Go.Proofs.LaysM.n171 Tryz.prog Tryz.laysM171_ren := {
  mixed := by kernel_rfl
  f129 := Tryz.func152.trans (congrArg some (by kernel_rfl))
  f171 := Tryz.func35.trans (congrArg some (by kernel_rfl))
  f243 := Tryz.func70.trans (congrArg some (by kernel_rfl))
  f246 := Tryz.func92.trans (congrArg some (by kernel_rfl))
  f283 := Tryz.func119.trans (congrArg some (by kernel_rfl))
  f284 := Tryz.func120.trans (congrArg some (by kernel_rfl))
  f285 := Tryz.func121.trans (congrArg some (by kernel_rfl))
  f286 := Tryz.func122.trans (congrArg some (by kernel_rfl))
  f317 := Tryz.func151.trans (congrArg some (by kernel_rfl))
  f318 := Tryz.func153.trans (congrArg some (by kernel_rfl))
  f319 := Tryz.func154.trans (congrArg some (by kernel_rfl))
  f320 := Tryz.func155.trans (congrArg some (by kernel_rfl))
  f337 := Tryz.func172.trans (congrArg some (by kernel_rfl))
  f338 := Tryz.func173.trans (congrArg some (by kernel_rfl))
  t0 := Tryz.underlying0
  a0 := Tryz.isAgg0
  z0 := Tryz.sizeOf0
  v0 := Tryz.zeroValue0
  t2 := Tryz.underlying2
  a2 := Tryz.isAgg2
  z2 := Tryz.sizeOf2
  v2 := Tryz.zeroValue2
  t3 := Tryz.underlying3
  a3 := Tryz.isAgg3
  z3 := Tryz.sizeOf3
  v3 := Tryz.zeroValue3
  t4 := Tryz.underlying4
  a4 := Tryz.isAgg4
  z4 := Tryz.sizeOf4
  v4 := Tryz.zeroValue4
  t5 := Tryz.underlying5
  a5 := Tryz.isAgg5
  z5 := Tryz.sizeOf5
  v5 := Tryz.zeroValue5
  t9 := Tryz.underlying9
  a9 := Tryz.isAgg9
  z9 := Tryz.sizeOf9
  v9 := Tryz.zeroValue9
  t20 := Tryz.underlying20
  a20 := Tryz.isAgg20
  z20 := Tryz.sizeOf20
  v20 := Tryz.zeroValue20
  t37 := Tryz.underlying37
  a37 := Tryz.isAgg37
  z37 := Tryz.sizeOf37
  v37 := Tryz.zeroValue37
  t46 := Tryz.underlying116
  a46 := Tryz.isAgg116
  z46 := Tryz.sizeOf116
  v46 := Tryz.zeroValue116
  t51 := Tryz.underlying241
  a51 := Tryz.isAgg241
  z51 := Tryz.sizeOf241
  v51 := Tryz.zeroValue241
  t53 := Tryz.underlying36
  a53 := Tryz.isAgg36
  z53 := Tryz.sizeOf36
  v53 := Tryz.zeroValue36
  t171 := Tryz.underlying202
  a171 := Tryz.isAgg202
  z171 := Tryz.sizeOf202
  v171 := Tryz.zeroValue202
  t173 := Tryz.underlying205
  a173 := Tryz.isAgg205
  z173 := Tryz.sizeOf205
  v173 := Tryz.zeroValue205
  t212 := Tryz.underlying240
  a212 := Tryz.isAgg240
  z212 := Tryz.sizeOf240
  v212 := Tryz.zeroValue240
  t213 := Tryz.underlying242
  a213 := Tryz.isAgg242
  z213 := Tryz.sizeOf242
  t232 := Tryz.underlying101
  a232 := Tryz.isAgg101
  z232 := Tryz.sizeOf101
  v232 := Tryz.zeroValue101
  t233 := Tryz.underlying275
  a233 := Tryz.isAgg275
  z233 := Tryz.sizeOf275
  v233 := Tryz.zeroValue275
  g17 := by kernel_rfl
  g18 := by kernel_rfl
  g19 := by kernel_rfl
  i0 := by kernel_rfl
  i2 := by kernel_rfl
  i3 := by kernel_rfl
  i4 := by kernel_rfl
  i5 := by kernel_rfl
  i9 := by kernel_rfl
  i20 := by kernel_rfl
  i37 := by kernel_rfl
  i46 := by kernel_rfl
  i51 := by kernel_rfl
  i53 := by kernel_rfl
  i171 := by kernel_rfl
  i173 := by kernel_rfl
  i212 := by kernel_rfl
  i232 := by kernel_rfl
  i233 := by kernel_rfl
  m17 := by kernel_rfl
  m18 := by kernel_rfl
  m19 := by kernel_rfl }
open Go.RowKit Go.Sort Go.Lib in
/-- strconv.Itoa: "Itoa is equivalent to FormatInt(int64(i), 10).": i's DECIMAL NUMERAL ('Lib.itoa': a '-' where i is negative, then the digits), FOR EVERY int. The world behind the call: the world before it, new blocks behind the heap (the library's 'var a [24]byte'), draws. (LAID: no walk: one application.) -/
theorem Tryz.strconv_Itoa (n : Int) (h0 : -9223372036854775808 ≤ n) (h1 : n ≤ 9223372036854775807) (w : World) (htab : Lib.TabIs Tryz.prog w "internal/strconv.uint64pow10" .u64 Lib.pow10Tab) :
    Calls Tryz.prog 35 #[.int .i64 n] w fun e w' => e = .returned (.string ⟨(Lib.itoa n).toArray⟩) ∧ ∃ k os, w' = grow (w.drewN k) os := Any.strconv_Itoa Tryz.laysM171 n h0 h1 w htab
def Tryz.lays145_ren : Go.Shelf.Ren := ⟨fun | 145 => 56 | 220 => 87 | 219 => 109 | 217 => 89 | 225 => 138 | 224 => 139 | 267 => 140 | 266 => 112 | 314 => 168 | n => n, fun | 9 => 9 | 4 => 4 | 59 => 82 | 3 => 3 | 5 => 5 | 46 => 116 | 146 => 255 | 51 => 241 | n => n, fun | 1 => 0 | n => n⟩
theorem Tryz.lays145 : Go.Proofs.Lays.n145 Tryz.prog Tryz.lays145_ren := {
  mixed := by kernel_rfl
  f145 := Tryz.func56.trans (congrArg some (by kernel_rfl))
  f217 := Tryz.func89.trans (congrArg some (by kernel_rfl))
  f219 := Tryz.func109.trans (congrArg some (by kernel_rfl))
  f220 := Tryz.func87.trans (congrArg some (by kernel_rfl))
  f224 := Tryz.func139.trans (congrArg some (by kernel_rfl))
  f225 := Tryz.func138.trans (congrArg some (by kernel_rfl))
  f266 := Tryz.func112.trans (congrArg some (by kernel_rfl))
  f267 := Tryz.func140.trans (congrArg some (by kernel_rfl))
  f314 := Tryz.func168.trans (congrArg some (by kernel_rfl))
  t3 := Tryz.underlying3
  a3 := Tryz.isAgg3
  z3 := Tryz.sizeOf3
  v3 := Tryz.zeroValue3
  t4 := Tryz.underlying4
  a4 := Tryz.isAgg4
  z4 := Tryz.sizeOf4
  v4 := Tryz.zeroValue4
  t5 := Tryz.underlying5
  a5 := Tryz.isAgg5
  z5 := Tryz.sizeOf5
  v5 := Tryz.zeroValue5
  t9 := Tryz.underlying9
  a9 := Tryz.isAgg9
  z9 := Tryz.sizeOf9
  v9 := Tryz.zeroValue9
  t46 := Tryz.underlying116
  a46 := Tryz.isAgg116
  z46 := Tryz.sizeOf116
  v46 := Tryz.zeroValue116
  t51 := Tryz.underlying241
  a51 := Tryz.isAgg241
  z51 := Tryz.sizeOf241
  v51 := Tryz.zeroValue241
  t59 := Tryz.underlying82
  a59 := Tryz.isAgg82
  z59 := Tryz.sizeOf82
  v59 := Tryz.zeroValue82
  t146 := Tryz.underlying255
  a146 := Tryz.isAgg255
  z146 := Tryz.sizeOf255
  v146 := Tryz.zeroValue255
  g1 := by kernel_rfl }
open Go.RowKit Go.Lib in
/-- strings.Cut: "Cut slices s around the first instance of sep, returning the text before and after sep. The found result reports whether sep appears in s. If sep does not appear in s, cut returns s, "", false.": IT RETURNS 'Lib.cut s sep'; the world is az it was but for the count of draws. (LAID: no walk: one application.) -/
theorem Tryz.strings_Cut (s sep : ByteArray) (m : Int) (w : World) (hs : s.size < 4294967281) (hm : w.cell? ⟨0, 0, none⟩ = some (.int .i64 m)) :
    Calls Tryz.prog 56 #[.string s, .string sep] w fun e w' => e = .returned (.tuple #[.string ⟨(Lib.cut s.data.toList sep.data.toList).1.toArray⟩, .string ⟨(Lib.cut s.data.toList sep.data.toList).2.1.toArray⟩, .bool (Lib.cut s.data.toList sep.data.toList).2.2]) ∧ ∃ n, w' = w.drewN n := Any.strings_Cut Tryz.lays145 s sep m w hs hm
end Go.Proofs

namespace Go.Proofs
open Go.Shelf
def Tryz.lays169_ren : Go.Shelf.Ren := ⟨fun | 169 => 47 | n => n, fun | 70 => 91 | 9 => 9 | 0 => 0 | 72 => 93 | 37 => 37 | 127 => 140 | 3 => 3 | 5 => 5 | n => n, fun | n => n⟩
theorem Tryz.lays169 : Go.Proofs.Lays.n169 Tryz.prog Tryz.lays169_ren := {
  mixed := by kernel_rfl
  f169 := Tryz.func47.trans (congrArg some (by kernel_rfl))
  t0 := Tryz.underlying0
  a0 := Tryz.isAgg0
  z0 := Tryz.sizeOf0
  v0 := Tryz.zeroValue0
  t3 := Tryz.underlying3
  a3 := Tryz.isAgg3
  z3 := Tryz.sizeOf3
  v3 := Tryz.zeroValue3
  t9 := Tryz.underlying9
  a9 := Tryz.isAgg9
  z9 := Tryz.sizeOf9
  v9 := Tryz.zeroValue9
  t37 := Tryz.underlying37
  a37 := Tryz.isAgg37
  z37 := Tryz.sizeOf37
  v37 := Tryz.zeroValue37
  t70 := Tryz.underlying91
  a70 := Tryz.isAgg91
  z70 := Tryz.sizeOf91
  v70 := Tryz.zeroValue91
  t72 := Tryz.underlying93
  a72 := Tryz.isAgg93
  z72 := Tryz.sizeOf93
  v72 := Tryz.zeroValue93
  t127 := Tryz.underlying140
  a127 := Tryz.isAgg140
  z127 := Tryz.sizeOf140
  v127 := Tryz.zeroValue140 }
theorem Tryz.Builder_Extra_169 : Builder.Extra Tryz.prog Tryz.lays169_ren := {
  sizeBuilder := by kernel_rfl
  liesBuilder := by kernel_rfl
  t5 := Tryz.underlying5
  a5 := Tryz.isAgg5
  z5 := Tryz.sizeOf5
  v5 := Tryz.zeroValue5
  infoByte := by kernel_rfl
  cellsByte := by kernel_rfl
  sizeByte := by kernel_rfl
  neB5 := by decide }
def Tryz.lays156_ren : Go.Shelf.Ren := ⟨fun | 156 => 38 | 165 => 72 | 166 => 45 | 169 => 47 | 240 => 73 | 241 => 94 | 276 => 95 | 277 => 123 | n => n, fun | 31 => 78 | 9 => 9 | 3 => 3 | 4 => 4 | 0 => 0 | 20 => 20 | 72 => 93 | 76 => 96 | 70 => 91 | 37 => 37 | 75 => 95 | 127 => 140 | 164 => 173 | 5 => 5 | 80 => 99 | n => n, fun | n => n⟩
theorem Tryz.lays156 : Go.Proofs.Lays.n156 Tryz.prog Tryz.lays156_ren := {
  mixed := by kernel_rfl
  f156 := Tryz.func38.trans (congrArg some (by kernel_rfl))
  f165 := Tryz.func72.trans (congrArg some (by kernel_rfl))
  f166 := Tryz.func45.trans (congrArg some (by kernel_rfl))
  f169 := Tryz.func47.trans (congrArg some (by kernel_rfl))
  f240 := Tryz.func73.trans (congrArg some (by kernel_rfl))
  f241 := Tryz.func94.trans (congrArg some (by kernel_rfl))
  f276 := Tryz.func95.trans (congrArg some (by kernel_rfl))
  f277 := Tryz.func123.trans (congrArg some (by kernel_rfl))
  t0 := Tryz.underlying0
  a0 := Tryz.isAgg0
  z0 := Tryz.sizeOf0
  v0 := Tryz.zeroValue0
  t3 := Tryz.underlying3
  a3 := Tryz.isAgg3
  z3 := Tryz.sizeOf3
  v3 := Tryz.zeroValue3
  t4 := Tryz.underlying4
  a4 := Tryz.isAgg4
  z4 := Tryz.sizeOf4
  v4 := Tryz.zeroValue4
  t9 := Tryz.underlying9
  a9 := Tryz.isAgg9
  z9 := Tryz.sizeOf9
  v9 := Tryz.zeroValue9
  t20 := Tryz.underlying20
  a20 := Tryz.isAgg20
  z20 := Tryz.sizeOf20
  v20 := Tryz.zeroValue20
  t31 := Tryz.underlying78
  a31 := Tryz.isAgg78
  z31 := Tryz.sizeOf78
  v31 := Tryz.zeroValue78
  t37 := Tryz.underlying37
  a37 := Tryz.isAgg37
  z37 := Tryz.sizeOf37
  v37 := Tryz.zeroValue37
  t70 := Tryz.underlying91
  a70 := Tryz.isAgg91
  z70 := Tryz.sizeOf91
  v70 := Tryz.zeroValue91
  t72 := Tryz.underlying93
  a72 := Tryz.isAgg93
  z72 := Tryz.sizeOf93
  v72 := Tryz.zeroValue93
  t75 := Tryz.underlying95
  a75 := Tryz.isAgg95
  z75 := Tryz.sizeOf95
  v75 := Tryz.zeroValue95
  t76 := Tryz.underlying96
  a76 := Tryz.isAgg96
  z76 := Tryz.sizeOf96
  v76 := Tryz.zeroValue96
  t127 := Tryz.underlying140
  a127 := Tryz.isAgg140
  z127 := Tryz.sizeOf140
  v127 := Tryz.zeroValue140
  t164 := Tryz.underlying173
  a164 := Tryz.isAgg173
  z164 := Tryz.sizeOf173
  v164 := Tryz.zeroValue173 }
theorem Tryz.Builder_Extra_156 : Builder.Extra Tryz.prog Tryz.lays156_ren := {
  sizeBuilder := by kernel_rfl
  liesBuilder := by kernel_rfl
  t5 := Tryz.underlying5
  a5 := Tryz.isAgg5
  z5 := Tryz.sizeOf5
  v5 := Tryz.zeroValue5
  infoByte := by kernel_rfl
  cellsByte := by kernel_rfl
  sizeByte := by kernel_rfl
  neB5 := by decide }
open Go.RowKit in
/-- strings.Join: "Join concatenates the elements of its first argument to create a single string. The separator string sep is placed between elements in the resulting string.": HOWEVER MANY ELEMENTS. Below the heap's end the world is az it was. (LAID: no walk: one application.) -/
theorem Tryz.strings_Join (bk o c : Nat) (xs : List ByteArray) (sep : ByteArray) (w : World) (hcells : ∀ (j : Nat) x, xs[j]? = some x → w.cell? ⟨bk, o + j, none⟩ = some (.string x)) (hbk : bk < w.heap.size) (hN : xs.length ≤ 140737488355328) (hcap : xs.length ≤ c) (hlen : (Lib.join (xs.map (·.data.toList)) sep.data.toList).length ≤ 140737488355328) :
    Calls Tryz.prog 38 #[.slice (some ⟨bk, o, none⟩) xs.length c, .string sep] w fun e w' => e = .returned (.string ⟨(Lib.join (xs.map (·.data.toList)) sep.data.toList).toArray⟩) ∧ Below w.heap.size w w' := Any.strings_Join Tryz.lays156 Tryz.Builder_Extra_156 bk o c xs sep w hcells hbk hN hcap hlen
def Tryz.lays217_ren : Go.Shelf.Ren := ⟨fun | 217 => 89 | 266 => 112 | n => n, fun | 9 => 9 | 5 => 5 | 3 => 3 | n => n, fun | n => n⟩
theorem Tryz.lays217 : Go.Proofs.Lays.n217 Tryz.prog Tryz.lays217_ren := {
  mixed := by kernel_rfl
  f217 := Tryz.func89.trans (congrArg some (by kernel_rfl))
  f266 := Tryz.func112.trans (congrArg some (by kernel_rfl))
  t3 := Tryz.underlying3
  a3 := Tryz.isAgg3
  z3 := Tryz.sizeOf3
  v3 := Tryz.zeroValue3
  t5 := Tryz.underlying5
  a5 := Tryz.isAgg5
  z5 := Tryz.sizeOf5
  v5 := Tryz.zeroValue5
  t9 := Tryz.underlying9
  a9 := Tryz.isAgg9
  z9 := Tryz.sizeOf9
  v9 := Tryz.zeroValue9 }
open Go.RowKit Go.Lib in
/-- internal/stringslite.IndexByte (what strings.IndexByte calls): IT RETURNS 'Lib.indexByte s c'; the world is az it was. (LAID: no walk: one application.) -/
theorem Tryz.stringslite_IndexByte (s : ByteArray) (c : Int) (w : World) :
    Calls Tryz.prog 89 #[.string s, .int .u8 c] w fun e w' => e = .returned (.int .i64 (Lib.indexByte s.data.toList c.toNat.toUInt8)) ∧ w' = w := Any.stringslite_IndexByte Tryz.lays217 s c w
def Tryz.lays138_ren : Go.Shelf.Ren := ⟨fun | 138 => 107 | 195 => 136 | 218 => 137 | 143 => 108 | 219 => 109 | 217 => 89 | 225 => 138 | 224 => 139 | 267 => 140 | 266 => 112 | 314 => 168 | n => n, fun | 9 => 9 | 3 => 3 | 4 => 4 | 5 => 5 | 0 => 0 | 46 => 116 | 146 => 255 | 51 => 241 | n => n, fun | 1 => 0 | n => n⟩
theorem Tryz.lays138 : Go.Proofs.Lays.n138 Tryz.prog Tryz.lays138_ren := {
  mixed := by kernel_rfl
  f138 := Tryz.func107.trans (congrArg some (by kernel_rfl))
  f143 := Tryz.func108.trans (congrArg some (by kernel_rfl))
  f195 := Tryz.func136.trans (congrArg some (by kernel_rfl))
  f217 := Tryz.func89.trans (congrArg some (by kernel_rfl))
  f218 := Tryz.func137.trans (congrArg some (by kernel_rfl))
  f219 := Tryz.func109.trans (congrArg some (by kernel_rfl))
  f224 := Tryz.func139.trans (congrArg some (by kernel_rfl))
  f225 := Tryz.func138.trans (congrArg some (by kernel_rfl))
  f266 := Tryz.func112.trans (congrArg some (by kernel_rfl))
  f267 := Tryz.func140.trans (congrArg some (by kernel_rfl))
  f314 := Tryz.func168.trans (congrArg some (by kernel_rfl))
  t0 := Tryz.underlying0
  a0 := Tryz.isAgg0
  z0 := Tryz.sizeOf0
  v0 := Tryz.zeroValue0
  t3 := Tryz.underlying3
  a3 := Tryz.isAgg3
  z3 := Tryz.sizeOf3
  v3 := Tryz.zeroValue3
  t4 := Tryz.underlying4
  a4 := Tryz.isAgg4
  z4 := Tryz.sizeOf4
  v4 := Tryz.zeroValue4
  t5 := Tryz.underlying5
  a5 := Tryz.isAgg5
  z5 := Tryz.sizeOf5
  v5 := Tryz.zeroValue5
  t9 := Tryz.underlying9
  a9 := Tryz.isAgg9
  z9 := Tryz.sizeOf9
  v9 := Tryz.zeroValue9
  t46 := Tryz.underlying116
  a46 := Tryz.isAgg116
  z46 := Tryz.sizeOf116
  v46 := Tryz.zeroValue116
  t51 := Tryz.underlying241
  a51 := Tryz.isAgg241
  z51 := Tryz.sizeOf241
  v51 := Tryz.zeroValue241
  t146 := Tryz.underlying255
  a146 := Tryz.isAgg255
  z146 := Tryz.sizeOf255
  v146 := Tryz.zeroValue255
  g1 := by kernel_rfl }
open Go.RowKit Go.Lib in
/-- strings.Count AT A substr OF ONE BYTE ('hp'): "Count counts the number of non-overlapping instances of substr in s.": IT RETURNS 'Lib.countByte s (that byte)'; the world is az it was. ✋ NO CONTRACT HERE YET at an empty substr (utf8.RuneCountInString) or at a longer one (a loop over strings.Index). (LAID: no walk: one application.) -/
theorem Tryz.strings_Count_one (s : ByteArray) (c : UInt8) (w : World) :
    Calls Tryz.prog 107 #[.string s, .string ⟨#[c]⟩] w fun e w' => e = .returned (.int .i64 (Lib.countByte s.data.toList c)) ∧ w' = w := Any.strings_Count_one Tryz.lays138 s c w
end Go.Proofs
