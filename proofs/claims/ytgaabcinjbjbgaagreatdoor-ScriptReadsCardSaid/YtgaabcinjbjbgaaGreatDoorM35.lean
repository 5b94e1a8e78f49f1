/- AuditLines: the program's reader of numbers. · Reading of moves, the program's side: numbers, devices. · AuditLines: a text parted at a byte. · Reading of moves, the program's side: devices, whole numbers. -/
import Derived.Test.YtgaabcinjbjbgaaGreatDoorM34
import Derived.Test.YtgaabcinjbjbgaaGreatDoorM33
import Derived.Test.YtgaabcinjbjbgaaGreatDoorM31
import Derived.Lib.ParseIntBCases
import Derived.Lib.ParseIntBMem
import Derived.Test.YtgaabcinjbjbgaaGreatDoorM32
import Derived.Lib.SplitLaws
import Derived.Lib.CutLaws
import Derived.Lib.CountLaws
import Derived.Lib.AtoiAllCases

namespace Go.RX.Lf
open Go Go.RX Go.Proofs Go.RX.Ln Go.RX.Lp Go.RowKit
variable {w0 : World} {n0 : Nat}
theorem small_meets (i : Nat) (h : i < 100) : Meets Tryz.prog 119 [.int .i64 i] [] fun x hs => x = strV (Lib.decDigits i) ∧ hs = [] := Au.meets_pure fun w => Tryz.internal_strconv_small i h w
theorem nd_meets (hL : Laid0 w0 n0) (u : Nat) (h1 : 1 ≤ u) (h2 : u < 18446744073709551616) : Meets Tryz.prog 120 [.int .u64 u] [keptHP n0 w0] fun x hs => x = .int .i64 (Lib.nDigits u) ∧ hs = [keptHP n0 w0] :=
  meets_kept fun w hk => (Tryz.internal_strconv_numDigits u h1 h2 w (hL.keep hk).tab).mono fun e w' ⟨he, hw⟩ => ⟨he, by subst hw; exact Below.refl _ _⟩
theorem put_seg (n : Nat) (dk : Array UInt8) (hd : dk.size = n) : Sort.putCells (fun (b : UInt8) => Value.int .u8 (b.toNat : Int)) 0 dk (segCells .u8 24 (fun _ => 0)).toArray = (segCells .u8 24 (fun j => if j < n then (dk[j]!.toNat : Int) else 0)).toArray := by
  apply Array.ext_getElem?
  intro k
  simp only [Sort.putCells, Array.getElem?_mapIdx, List.getElem?_toArray, segCells_getElem?]
  by_cases hk : k < 24
  · rw [if_pos hk, if_pos hk, Option.map_some]
    by_cases hn : k < n
    · rw [if_pos ⟨Nat.zero_le _, by omega⟩, if_pos hn, Nat.sub_zero]
    · rw [if_neg (by omega), if_neg hn]
  · rw [if_neg hk, if_neg hk]
    rfl
theorem fb_meets (b u : Nat) (h64 : u < 18446744073709551616) (hn : Lib.nDigits u ≤ 20) : Meets Tryz.prog 121 [.slice (some ⟨b, 0, none⟩) (Lib.nDigits u) 24, .int .u64 u] [rowHP b true (segCells .u8 24 (fun _ => 0))]
    fun x hs => x = .tuple #[] ∧ ∃ A : Nat → Int, ((List.range (Lib.nDigits u)).map fun j => UInt8.ofNat (A j).toNat) = Lib.decDigits u ∧ hs = [rowHP b true (segCells .u8 24 A)] := by
  intro w Fs ho
  obtain ⟨S, hS⟩ := ho
  obtain ⟨⟨h1, ty, fz, h2, h3⟩, hlt⟩ := hS.at_ 0 (rowHP b true (segCells .u8 24 (fun _ => 0))) rfl
  obtain rfl := h3 rfl
  have hH : Sort.Holds (fun (b : UInt8) => Value.int .u8 (b.toNat : Int)) w b 0 (Array.replicate (Lib.nDigits u) 0) := by
    intro j hj
    rw [Array.size_replicate] at hj
    constructor
    · simp only [World.cell?, h2, List.getElem?_toArray, segCells_getElem?, Nat.zero_add]
      rw [if_pos (show j < 24 by omega)]
      simp [hj]
    · simp [World.frozen?, h2]
  have hf := Tryz.internal_strconv_formatBase10 b 0 24 u (Array.replicate (Lib.nDigits u) 0) w hH (by rw [Array.size_replicate]; exact Lib.lt_pow_nDigits u) h64 (by rw [Array.size_replicate]; omega)
  rw [Array.size_replicate] at hf
  refine hf.mono ?_
  rintro e w' ⟨rfl, k, v', dk, rfl, hF⟩
  have hsz := hF.size
  have hdig : ((List.range (Lib.nDigits u)).map fun j => UInt8.ofNat ((fun j => if j < Lib.nDigits u then (dk[j]!.toNat : Int) else 0) j).toNat) = Lib.decDigits u := by
    apply List.ext_getElem
    · simp [Lib.decDigits_length]
    · intro j hj1 hj2
      rw [Lib.row_is_numeral hF j hj2]
      have : j < Lib.nDigits u := by rw [Lib.decDigits_length] at hj2; exact hj2
      simp [this]
  have hheap : ∀ q, ((Sort.putRow (fun (b : UInt8) => Value.int .u8 (b.toNat : Int)) w b 0 dk).drewN k).heap[q]? = if b = q then some (.cells (segCells .u8 24 (fun j => if j < Lib.nDigits u then (dk[j]!.toNat : Int) else 0)).toArray ty (0, 0)) else w.heap[q]? := by
    intro q
    show (w.heap.modify b (Sort.onCells (Sort.putCells (fun (b : UInt8) => Value.int .u8 (b.toNat : Int)) 0 dk)))[q]? = _
    rw [Array.getElem?_modify]
    by_cases hq : b = q
    · subst hq
      rw [if_pos rfl, if_pos rfl, h2, Option.map_some]
      simp only [Sort.onCells]
      rw [put_seg (Lib.nDigits u) dk hsz]
    · rw [if_neg hq, if_neg hq]
  have hsize : ((Sort.putRow (fun (b : UInt8) => Value.int .u8 (b.toNat : Int)) w b 0 dk).drewN k).heap.size = w.heap.size := Array.size_modify
  refine ⟨_, _, rfl, ⟨rfl, _, hdig, rfl⟩, ⟨_, hS.step 0 (rowHP b true (segCells .u8 24 (fun _ => 0))) (rowHP b true (segCells .u8 24 (fun j => if j < Lib.nDigits u then (dk[j]!.toNat : Int) else 0))) rfl rfl (fun k => k = b) (Nat.le_of_eq hsize.symm) ?_ ?_ ?_⟩, ⟨rfl, rfl, rfl, Nat.le_of_eq hsize.symm⟩⟩
  · intro q _ hq
    rw [hheap, if_neg (fun e => hq ((h1 q).2 e.symm))]
  · exact ⟨fun _ => Iff.rfl, ty, (0, 0), by rw [hheap, if_pos rfl], fun _ => rfl⟩
  · intro q hq
    exact Or.inl ((h1 q).2 hq)
theorem fmt_meets (hL : Laid0 w0 n0) (u : Nat) (h64 : u ≤ 18446744073709551615) : Meets Tryz.prog 71 [.int .u64 u, .int .i64 10] [keptHP n0 w0] fun x hs => x = strV (Lib.decDigits u) ∧ hs = [keptHP n0 w0] := by
  refine Meets.of_look (C := cxF) (cnt := { i := 1, p := 1 }) (ρ := { iv := [(u : Int)], pv := [keptHP n0 w0] }) okT okFT okM Tryz.func71 (by constructor <;> rfl) rfl rfl
    (fun v => v = strV (Lib.decDigits u)) (args := [.int .u64 (.var 0), .int .i64 (.lit 10)]) run_fmt (vc_fmt Tryz.prog (fun v _ => v = strV (Lib.decDigits u)) u (keptHP n0 w0) (fun _ => LC.none)) ?_
  unfold st_fmt
  refine ⟨fun h => ⟨by omega, fun _ => ⟨by omega, fun _ => ⟨_, small_meets u (by omega), ?_⟩⟩⟩, fun h b => ?_⟩
  · rintro _ _ ⟨rfl, rfl⟩
    exact ⟨rowS (Lib.decDigits u), strV_row _, rfl, by rw [strD_rowS]; rfl⟩
  · have hn := Lib.numDigits_eq u (by omega) (by omega)
    have hn20 : Lib.nDigits u ≤ 20 := by split at hn <;> omega
    refine ⟨_, nd_meets hL u (by omega) (by omega), ?_⟩
    rintro _ _ ⟨rfl, rfl⟩
    refine ⟨(Lib.nDigits u : Int), rfl, rfl, by omega, fun _ => ⟨by omega, fun _ => ?_⟩⟩
    rw [Int.toNat_natCast]
    have fb := fb_meets b u (by omega) hn20
    refine ⟨_, by simpa using fb, ?_⟩
    rintro _ _ ⟨rfl, A, hA, rfl⟩
    refine ⟨A, rfl, by simp, ?_⟩
    show Value.string _ = _
    rw [strD_bytF, Int.toNat_natCast, hA]
    rfl
theorem below_bytes (w : World) (t : ByteArray) {w' : World} (h : w' = w ∨ w' = Lib.bytesWorld w 5 t) : Below w.heap.size w w' := by
  rcases h with rfl | rfl
  · exact Below.refl _ _
  · exact Lib.bytesWorld_below _ _ _
/-- What strconv.ParseUint answers: the number, or an error that is not nil. -/
def PU (B : Nat) (l : List UInt8) (v : Value) : Prop := ∃ n : Nat, n ≤ 2 ^ B - 1 ∧ ((v = .tuple #[.int .u64 n, .nilIface] ∧ Lib.parseUintB B l = .ok n) ∨ ∃ t x, v = .tuple #[.int .u64 n, .iface t x] ∧ Lib.parseUintB B l ≠ .ok n ∧ numP B l = (n, false))
theorem meets_PU {f B : Nat} {l : List UInt8} {args : List Value} (h : ∀ w, (∀ k, k < n0 → w.heap[k]? = w0.heap[k]?) → Calls Tryz.prog f args.toArray w fun e w' => ∃ v, e = .returned v ∧ PU B l v ∧ Below w.heap.size w w') :
    Meets Tryz.prog f args [keptHP n0 w0] fun x hs => PU B l x ∧ hs = [keptHP n0 w0] := by
  intro w Fs ho
  have ho' := ho
  obtain ⟨S, hS⟩ := ho
  refine (h w (hS.at_ 0 (keptHP n0 w0) rfl).1.2).mono ?_
  rintro e w' ⟨v, rfl, hp, h1, h2, h3, h4, h5⟩
  exact ⟨v, _, rfl, ⟨hp, rfl⟩, ⟨S, hS.keep h4 fun k hk => h5 k hk⟩, ⟨h1, h2, h3, h4⟩⟩
theorem numP_syntax {B : Nat} {l : List UInt8} (h : Lib.parseUintB B l = Tryz.synE) : numP B l = (0, false) := by rw [numP, h]; rfl
theorem numP_range {B : Nat} {l : List UInt8} (h : Lib.parseUintB B l = .range) : numP B l = (2 ^ B - 1, false) := by rw [numP, h]
theorem pu8_meets (hL : Laid0 w0 n0) (l : List UInt8) (hl : l.length ≤ 281474976710656) : Meets Tryz.prog 88 [strV l, .int .i64 10, .int .i64 8] [keptHP n0 w0] fun x hs => PU 8 l x ∧ hs = [keptHP n0 w0] := by
  refine meets_PU fun w hk => ?_
  rcases hp : Lib.parseUintB 8 l with u | _ | _
  · refine (Tryz.strconv_ParseUint_10_at8_ok ⟨l.toArray⟩ (by simp [ByteArray.size]; omega) u hp w).mono ?_
    rintro e w' ⟨rfl, hw⟩
    exact ⟨_, rfl, ⟨u, Lib.parseUintB_le hp, Or.inl ⟨rfl, hp⟩⟩, below_bytes w _ hw⟩
  · obtain ⟨te, pe, hv⟩ := (hL.keep hk).syn
    refine (Tryz.strconv_ParseUint_10_at8_syntax ⟨l.toArray⟩ (by simp [ByteArray.size]; omega) hp _ w hv (Or.inr ⟨te, pe, rfl⟩)).mono ?_
    rintro e w' ⟨N, rfl, _, _, hb⟩
    exact ⟨_, rfl, ⟨0, Nat.zero_le _, Or.inr ⟨_, _, rfl, by rw [hp]; simp, numP_syntax hp⟩⟩, hb⟩
  · obtain ⟨te, pe, hv⟩ := (hL.keep hk).rng
    refine (Tryz.strconv_ParseUint_10_at8_range ⟨l.toArray⟩ (by simp [ByteArray.size]; omega) hp _ w hv (Or.inr ⟨te, pe, rfl⟩)).mono ?_
    rintro e w' ⟨N, rfl, _, _, hb⟩
    exact ⟨_, rfl, ⟨255, Nat.le_refl _, Or.inr ⟨_, _, rfl, by rw [hp]; simp, numP_range hp⟩⟩, hb⟩
end Go.RX.Lf

namespace Go.RX.St
open Go Go.RX Go.Proofs Go.RX.Ln Go.RX.Su Go.RX.Lp Go.RX.Lf
variable {n0 : Nat} {w0 : World}
theorem pu64_meets (hL : Laid0 w0 n0) (l : List UInt8) (hl : l.length ≤ 281474976710656) : Meets Tryz.prog 88 [strV l, .int .i64 10, .int .i64 64] [keptHP n0 w0] fun x hs => PU 64 l x ∧ hs = [keptHP n0 w0] := by
  refine meets_PU fun w hk => ?_
  rcases hp : Lib.parseUintB 64 l with u | _ | _
  · refine (Tryz.strconv_ParseUint_10_at64_ok ⟨l.toArray⟩ (by simp [ByteArray.size]; omega) u hp w).mono ?_
    rintro e w' ⟨rfl, hw⟩
    exact ⟨_, rfl, ⟨u, Lib.parseUintB_le hp, Or.inl ⟨rfl, hp⟩⟩, below_bytes w _ hw⟩
  · obtain ⟨te, pe, hv⟩ := (hL.keep hk).syn
    refine (Tryz.strconv_ParseUint_10_at64_syntax ⟨l.toArray⟩ (by simp [ByteArray.size]; omega) hp _ w hv (Or.inr ⟨te, pe, rfl⟩)).mono ?_
    rintro e w' ⟨N, rfl, _, _, hb⟩
    exact ⟨_, rfl, ⟨0, Nat.zero_le _, Or.inr ⟨_, _, rfl, by rw [hp]; simp, numP_syntax hp⟩⟩, hb⟩
  · obtain ⟨te, pe, hv⟩ := (hL.keep hk).rng
    refine (Tryz.strconv_ParseUint_10_at64_range ⟨l.toArray⟩ (by simp [ByteArray.size]; omega) hp _ w hv (Or.inr ⟨te, pe, rfl⟩)).mono ?_
    rintro e w' ⟨N, rfl, _, _, hb⟩
    exact ⟨_, rfl, ⟨18446744073709551615, Nat.le_refl _, Or.inr ⟨_, _, rfl, by rw [hp]; simp, numP_range hp⟩⟩, hb⟩
theorem numR_ok (B : Nat) (hB : 2 ^ B - 1 < 18446744073709551616) {l : List UInt8} {n : Nat} (h : Lib.parseUintB B l = .ok n) : numR (2 ^ B - 1) l = if l = Lib.decDigits n then some n else none := by
  by_cases hl : l = Lib.decDigits n
  · rw [if_pos hl]
    exact (numR_iff _ hB l n).2 ⟨Lib.parseUintB_le h, hl⟩
  · rw [if_neg hl]
    rcases hn : numR (2 ^ B - 1) l with _ | m
    · rfl
    · obtain ⟨h1, rfl⟩ := (numR_iff _ hB _ _).1 hn
      rw [parseB_dec B m (by omega) h1] at h
      cases h
      exact absurd rfl hl
theorem numR_no (B : Nat) (hB : 2 ^ B - 1 < 18446744073709551616) {l : List UInt8} {n : Nat} (h : numP B l = (n, false)) : numR (2 ^ B - 1) l = none := by
  rcases hn : numR (2 ^ B - 1) l with _ | m
  · rfl
  · obtain ⟨h1, rfl⟩ := (numR_iff _ hB _ _).1 hn
    rw [numP_dec B m (by omega) h1] at h
    cases h
/-- A number, and whether it is one; none's may be anything. -/
def FitQ (k : IntKind) (M : Int) (o : Option Nat) (v : Value) : Prop := ∃ x : Int, (0 ≤ x ∧ x ≤ M) ∧ v = .tuple #[.int k x, .bool o.isSome] ∧ ∀ n, o = some n → x = n
theorem fit8_meets (hL : Laid0 w0 n0) (l : List UInt8) (hl : l.length ≤ 281474976710656) : Meets Tryz.prog 148 [strV l, .int .i64 8] [keptHP n0 w0] fun x hs => FitQ .u8 255 (numR 255 l) x ∧ hs = [keptHP n0 w0] := by
  have e0 : strV l = (SV.strE (.avar 0)).val { av := [rowS l], pv := [keptHP n0 w0] } := strV_row l
  rw [e0]
  refine Meets.of_look (C := cxF) (cnt := { a := 1, p := 1 }) (ρ := { av := [rowS l], pv := [keptHP n0 w0] }) okT okFT okM Tryz.func148 (by constructor <;> rfl) rfl rfl
    (fun v => FitQ .u8 255 (numR 255 l) v) (args := [.strE (.avar 0), .int .i64 (.lit 8)]) run_fit8 (vc_fit8 Tryz.prog (fun v _ => FitQ .u8 255 (numR 255 l) v) (rowS l) (keptHP n0 w0) (fun _ => LC.none)) ?_
  unfold st_fit8
  rw [strD_rowS]
  refine ⟨_, pu8_meets hL l hl, ?_⟩
  rintro x _ ⟨⟨n, hn, h⟩, rfl⟩
  have hn : n ≤ 255 := hn
  rcases h with ⟨rfl, hp⟩ | ⟨t, y, rfl, hne, hnp⟩
  · refine ⟨V1.nil, n, false, rfl, rfl, fun _ => ?_, fun h => absurd Bool.false_ne_true h⟩
    refine ⟨_, fmt_meets hL n (by omega), ?_⟩
    rintro _ _ ⟨rfl, rfl⟩
    refine ⟨rowS (Lib.decDigits n), strV_row _, rfl, ?_⟩
    have h8 := numR_ok 8 (by decide) hp
    rw [show (2 : Nat) ^ 8 - 1 = 255 from rfl] at h8
    refine ⟨n, by omega, ?_, ?_⟩
    · rw [u8_in _ (by omega), strD_rowS, h8]
      by_cases hd : l = Lib.decDigits n
      · rw [if_pos hd, ← hd]; simp
      · rw [if_neg hd]
        have : (Lib.decDigits n == l) = false := by simpa using fun e => hd e.symm
        rw [this]; rfl
    · intro m hm
      rw [h8] at hm
      split at hm
      · cases hm; rfl
      · cases hm
  · refine ⟨⟨.iface t y, rfl⟩, n, true, rfl, rfl, fun h => absurd rfl h, fun _ => ?_⟩
    have h8 := numR_no 8 (by decide) hnp
    rw [show (2 : Nat) ^ 8 - 1 = 255 from rfl] at h8
    refine ⟨n, by omega, ?_, ?_⟩
    · rw [u8_in _ (by omega), h8]; rfl
    · intro m hm
      rw [h8] at hm
      cases hm
theorem fit64_meets (hL : Laid0 w0 n0) (l : List UInt8) (hl : l.length ≤ 281474976710656) : Meets Tryz.prog 117 [strV l, .int .i64 64] [keptHP n0 w0] fun x hs => FitQ .u64 18446744073709551615 (numR 18446744073709551615 l) x ∧ hs = [keptHP n0 w0] := by
  have e0 : strV l = (SV.strE (.avar 0)).val { av := [rowS l], pv := [keptHP n0 w0] } := strV_row l
  rw [e0]
  refine Meets.of_look (C := cxF) (cnt := { a := 1, p := 1 }) (ρ := { av := [rowS l], pv := [keptHP n0 w0] }) okT okFT okM Tryz.func117 (by constructor <;> rfl) rfl rfl
    (fun v => FitQ .u64 18446744073709551615 (numR 18446744073709551615 l) v) (args := [.strE (.avar 0), .int .i64 (.lit 64)]) run_fit64 (vc_fit64 Tryz.prog (fun v _ => FitQ .u64 18446744073709551615 (numR 18446744073709551615 l) v) (rowS l) (keptHP n0 w0) (fun _ => LC.none)) ?_
  unfold st_fit64
  rw [strD_rowS]
  refine ⟨_, pu64_meets hL l hl, ?_⟩
  rintro x _ ⟨⟨n, hn, h⟩, rfl⟩
  have hn : n ≤ 18446744073709551615 := hn
  rcases h with ⟨rfl, hp⟩ | ⟨t, y, rfl, hne, hnp⟩
  · refine ⟨V1.nil, n, false, rfl, rfl, fun _ => ?_, fun h => absurd Bool.false_ne_true h⟩
    refine ⟨_, fmt_meets hL n (by omega), ?_⟩
    rintro _ _ ⟨rfl, rfl⟩
    refine ⟨rowS (Lib.decDigits n), strV_row _, rfl, ?_⟩
    have h8 := numR_ok 64 (by decide) hp
    rw [show (2 : Nat) ^ 64 - 1 = 18446744073709551615 from rfl] at h8
    refine ⟨n, by omega, ?_, ?_⟩
    · rw [strD_rowS, h8]
      by_cases hd : l = Lib.decDigits n
      · rw [if_pos hd, ← hd]; simp
      · rw [if_neg hd]
        have : (Lib.decDigits n == l) = false := by simpa using fun e => hd e.symm
        rw [this]; rfl
    · intro m hm
      rw [h8] at hm
      split at hm
      · cases hm; rfl
      · cases hm
  · refine ⟨⟨.iface t y, rfl⟩, n, true, rfl, rfl, fun h => absurd rfl h, fun _ => ?_⟩
    have h8 := numR_no 64 (by decide) hnp
    rw [show (2 : Nat) ^ 64 - 1 = 18446744073709551615 from rfl] at h8
    refine ⟨n, by omega, ?_, ?_⟩
    · rw [h8]; rfl
    · intro m hm
      rw [h8] at hm
      cases hm
end Go.RX.St

namespace Go.RX.Ln
open Go
/-- A text's parts, at each of one byte. -/
def splitL (c : UInt8) : List UInt8 → List (List UInt8)
  | [] => [[]]
  | b :: r => if b = c then [] :: splitL c r else
    match splitL c r with
    | [] => [[b]]
    | x :: xs => (b :: x) :: xs
theorem index_cons (b c : UInt8) (l : List UInt8) : Lib.index (b :: l) [c] = if b = c then 0 else if Lib.index l [c] = -1 then -1 else Lib.index l [c] + 1 := by
  rw [Lib.index]
  by_cases h : b = c
  · simp [h, List.isPrefixOf]
  · simp [h, List.isPrefixOf, Ne.symm h]
theorem index_nil (c : UInt8) : Lib.index [] [c] = -1 := by rw [Lib.index]; simp
theorem splitL_miss (c : UInt8) : ∀ l : List UInt8, Lib.index l [c] = -1 → splitL c l = [l]
  | [], _ => rfl
  | b :: r, h => by
    rw [index_cons] at h
    by_cases hb : b = c
    · rw [if_pos hb] at h; cases h
    · rw [if_neg hb] at h
      by_cases hr : Lib.index r [c] = -1
      · simp only [splitL, if_neg hb, splitL_miss c r hr]
      · rw [if_neg hr] at h
        have := Lib.index_ge r [c]
        omega
theorem splitL_hit (c : UInt8) : ∀ (l : List UInt8) (i : Nat), Lib.index l [c] = i → splitL c l = l.take i :: splitL c (l.drop (i + 1))
  | [], i, h => by rw [index_nil] at h; omega
  | b :: r, i, h => by
    rw [index_cons] at h
    by_cases hb : b = c
    · rw [if_pos hb] at h
      obtain rfl : i = 0 := by omega
      simp [splitL, hb]
    · rw [if_neg hb] at h
      by_cases hr : Lib.index r [c] = -1
      · rw [if_pos hr] at h; omega
      · rw [if_neg hr] at h
        have hg := Lib.index_ge r [c]
        obtain ⟨j, rfl⟩ : ∃ j, i = j + 1 := ⟨i - 1, by omega⟩
        have := splitL_hit c r j (by omega)
        simp only [splitL, if_neg hb, this, List.take_succ_cons, List.drop_succ_cons]
theorem splitL_one (c : UInt8) : ∀ x : List UInt8, c ∉ x → splitL c x = [x]
  | [], _ => rfl
  | b :: r, h => by
    have hb : b ≠ c := fun e => h (by simp [e])
    simp only [splitL, if_neg hb, splitL_one c r (fun hr => h (List.mem_cons_of_mem _ hr))]
theorem splitL_app (c : UInt8) (r : List UInt8) : ∀ x : List UInt8, c ∉ x → splitL c (x ++ c :: r) = x :: splitL c r
  | [], _ => by simp [splitL]
  | b :: x, h => by
    have hb : b ≠ c := fun e => h (by simp [e])
    simp only [List.cons_append, splitL, if_neg hb, splitL_app c r x (fun hr => h (List.mem_cons_of_mem _ hr))]
end Go.RX.Ln

namespace Go.RX.St
open Go Go.RX Go.Proofs Go.RX.Ln Go.RX.Su Go.RX.Lp Go.RX.Lf Go.RowKit
variable {n0 : Nat} {w0 : World}
theorem cut_cons (b c : UInt8) (l : List UInt8) : Lib.cut (b :: l) [c] = if b = c then ([], l, true) else if (Lib.cut l [c]).2.2 then (b :: (Lib.cut l [c]).1, (Lib.cut l [c]).2.1, true) else (b :: l, [], false) := by
  unfold Lib.cut
  rw [index_cons]
  by_cases h : b = c
  · simp [h]
  · rw [if_neg h, if_neg h]
    have hg := Lib.index_ge l [c]
    by_cases hi : Lib.index l [c] = -1
    · rw [if_pos hi, hi]
      simp
    · have h0 : 0 ≤ Lib.index l [c] := by omega
      have h1 : 0 ≤ Lib.index l [c] + 1 := by omega
      have h2 : (Lib.index l [c] + 1).toNat = (Lib.index l [c]).toNat + 1 := by omega
      simp [if_neg hi, if_pos h0, if_pos h1, h2]
theorem cut_nil (c : UInt8) : Lib.cut [] [c] = ([], [], false) := by
  unfold Lib.cut
  rw [index_nil]
  simp
/-- The library's Cut at one byte. -/
def cutV (c : UInt8) (l : List UInt8) : List UInt8 × List UInt8 × Bool :=
  match cutR c l with
  | some (a, b) => (a, b, true)
  | none => (l, [], false)
theorem cut_R (c : UInt8) : ∀ l : List UInt8, Lib.cut l [c] = cutV c l
  | [] => cut_nil c
  | b :: r => by
    rw [cut_cons, cut_R c r]
    unfold cutV
    rw [cutR]
    by_cases h : b = c
    · rw [if_pos h, if_pos h]
    · rw [if_neg h, if_neg h]
      rcases cutR c r with _ | ⟨x, y⟩
      · rfl
      · rfl
theorem cutR_len (c : UInt8) : ∀ (l a b : List UInt8), cutR c l = some (a, b) → a.length ≤ l.length ∧ b.length ≤ l.length
  | [], a, b, h => by cases h
  | x :: r, a, b, h => by
    rw [cutR] at h
    split at h
    · cases h; simp
    · rw [Option.map_eq_some_iff] at h
      obtain ⟨⟨p, q⟩, hp, he⟩ := h
      cases he
      have := cutR_len c r p q hp
      simp
      omega
theorem pdev_meets (hL : Laid0 w0 n0) (l : List UInt8) (hl : l.length ≤ 1000000) : Meets Tryz.prog 115 [strV l] [keptHP n0 w0] fun x hs => DevQ (devR l) x ∧ hs = [keptHP n0 w0] := by
  have e0 : strV l = (SV.strE (.avar 0)).val { av := [rowS l], pv := [keptHP n0 w0] } := strV_row l
  rw [e0]
  refine Meets.of_look (C := cxD) (cnt := { a := 1, p := 1 }) (ρ := { av := [rowS l], pv := [keptHP n0 w0] }) okT okFT okM Tryz.func115 (by constructor <;> rfl) rfl rfl
    (fun v => DevQ (devR l) v) (args := [.strE (.avar 0)]) run_pdev (vc_pdev Tryz.prog (fun v _ => DevQ (devR l) v) (rowS l) (keptHP n0 w0) (fun _ => LC.none)) ?_
  unfold st_pdev
  rw [strD_rowS]
  refine fun _ => ⟨_, cut_meets hL l [47] (by omega), ?_⟩
  rintro x _ ⟨rfl, rfl⟩
  rw [cut_R]
  have key : ∃ a b t, cutV 47 l = (a, b, t) ∧ a.length ≤ l.length ∧ b.length ≤ l.length ∧ devR l = if t then (match numR 255 a, numR 255 b with | some x, some y => some (x, y) | _, _ => none) else none := by
    rcases hc : cutR 47 l with _ | ⟨a, b⟩
    · exact ⟨l, [], false, by rw [cutV, hc], Nat.le_refl _, Nat.zero_le _, by rw [devR, hc]; rfl⟩
    · have := cutR_len 47 l a b hc
      exact ⟨a, b, true, by rw [cutV, hc], this.1, this.2, by rw [devR, hc]; rfl⟩
  obtain ⟨a, b, t, hk, ha, hb, hd⟩ := key
  rw [hk]
  refine ⟨rowS a, rowS b, t, ?_, rfl, ?_⟩
  · rw [strD_rowS, strD_rowS]; rfl
  rw [strD_rowS, strD_rowS]
  refine ⟨_, fit8_meets hL a (by omega), ?_⟩
  rintro x _ ⟨⟨x0, hx0, rfl, h0⟩, rfl⟩
  refine ⟨x0, _, rfl, rfl, _, fit8_meets hL b (by omega), ?_⟩
  rintro x _ ⟨⟨x1, hx1, rfl, h1⟩, rfl⟩
  refine ⟨x1, _, rfl, rfl, x0, x1, hx0.1, hx0.2, hx1.1, hx1.2, ?_, ?_⟩
  · rw [hd]
    cases t <;> rcases numR 255 a with _ | p <;> rcases numR 255 b with _ | q <;> rfl
  · intro p hp
    rw [hd] at hp
    cases t
    · cases hp
    · rcases hna : numR 255 a with _ | u
      · rw [hna] at hp; cases hp
      · rcases hnb : numR 255 b with _ | v
        · rw [hna, hnb] at hp; cases hp
        · rw [hna, hnb] at hp
          cases hp
          exact ⟨h0 u hna, h1 v hnb⟩
theorem p10_dec : ∀ u : Nat, u < 18446744073709551616 → ∀ r, Lib.parseUint10 0 (Lib.decDigits u ++ r) = Lib.parseUint10 u r := by
  intro u
  induction u using Nat.strongRecOn with
  | _ u ih =>
    intro hu r
    rw [Lib.decDigits]
    by_cases h : u < 10
    · rw [dif_pos h]
      have e : (UInt8.ofNat (48 + u)).toNat = 48 + u := by rw [UInt8.toNat_ofNat']; omega
      rw [List.singleton_append, Lib.parseUint10, e, if_pos (by omega), if_neg (by omega), if_neg (by omega)]
      congr 1
      omega
    · rw [dif_neg h, List.append_assoc, ih (u / 10) (by omega) (by omega)]
      have e : (UInt8.ofNat (48 + u % 10)).toNat = 48 + u % 10 := by rw [UInt8.toNat_ofNat']; omega
      rw [List.singleton_append, Lib.parseUint10, e, if_pos (by omega), if_neg (by omega), if_neg (by omega)]
      congr 1
      omega
theorem mag_dec (u : Nat) (hu : u < 18446744073709551616) : Lib.parseMag (Lib.decDigits u) = .ok u := by
  have := p10_dec u hu []
  rw [List.append_nil] at this
  unfold Lib.parseMag
  rw [if_neg (dec_ne u), this]
  rfl
theorem dec_first (u : Nat) : ∃ c r, Lib.decDigits u = c :: r ∧ 48 ≤ c.toNat := by
  induction u using Nat.strongRecOn with
  | _ u ih =>
    rw [Lib.decDigits]
    by_cases h : u < 10
    · rw [dif_pos h]
      exact ⟨_, [], rfl, by rw [UInt8.toNat_ofNat']; omega⟩
    · rw [dif_neg h]
      obtain ⟨c, r, e, hc⟩ := ih (u / 10) (by omega)
      rw [e]
      exact ⟨c, _, rfl, hc⟩
theorem atoi_itoa (z : Int) (h0 : -9223372036854775808 ≤ z) (h1 : z ≤ 9223372036854775807) : Lib.atoiAll (Lib.itoa z) = .ok z := by
  unfold Lib.itoa
  by_cases h : z < 0
  · rw [if_pos h, Lib.atoiAll_minus, mag_dec _ (by omega)]
    simp only [Lib.signed]
    rw [if_neg (by omega)]
    congr 1
    omega
  · rw [if_neg h]
    obtain ⟨c, r, e, hc⟩ := dec_first z.toNat
    rw [e, Lib.atoiAll_plain c r (by omega) (by omega), ← e, mag_dec _ (by omega)]
    simp only [Lib.signless]
    rw [if_neg (by omega)]
    congr 1
    omega
theorem wholeR_ok {l : List UInt8} {n : Int} (h : Lib.atoiAll l = .ok n) : wholeR l = if l = Lib.itoa n then some n else none := by
  have hb := Lib.atoiAll_bounds h
  by_cases hl : l = Lib.itoa n
  · rw [if_pos hl]
    exact (wholeR_iff l n).2 ⟨hb, hl⟩
  · rw [if_neg hl]
    rcases hn : wholeR l with _ | m
    · rfl
    · obtain ⟨h1, rfl⟩ := (wholeR_iff _ _).1 hn
      rw [atoi_itoa m h1.1 h1.2] at h
      cases h
      exact absurd rfl hl
theorem wholeR_no {l : List UInt8} (h : ∀ n, Lib.atoiAll l ≠ .ok n) : wholeR l = none := by
  rcases hn : wholeR l with _ | m
  · rfl
  · obtain ⟨h1, rfl⟩ := (wholeR_iff _ _).1 hn
    exact absurd (atoi_itoa m h1.1 h1.2) (h m)
/-- What strconv.Atoi answers. -/
def AT (l : List UInt8) (v : Value) : Prop := ∃ n : Int, (-9223372036854775808 ≤ n ∧ n ≤ 9223372036854775807) ∧ ((v = .tuple #[.int .i64 n, .nilIface] ∧ Lib.atoiAll l = .ok n) ∨ ∃ t x, v = .tuple #[.int .i64 n, .iface t x] ∧ ∀ z, Lib.atoiAll l ≠ .ok z)
theorem atoi_meets (hL : Laid0 w0 n0) (l : List UInt8) (hl : l.length ≤ 281474976710656) : Meets Tryz.prog 116 [strV l] [keptHP n0 w0] fun x hs => AT l x ∧ hs = [keptHP n0 w0] := by
  intro w Fs ho
  have ho' := ho
  obtain ⟨S, hS⟩ := ho
  have hk := (hS.at_ 0 (keptHP n0 w0) rfl).1.2
  have key : Calls Tryz.prog 116 #[strV l] w fun e w' => ∃ v, e = .returned v ∧ AT l v ∧ Below w.heap.size w w' := by
    rcases hp : Lib.atoiAll l with u | _ | _
    · refine (Tryz.strconv_Atoi_ok ⟨l.toArray⟩ (by simp [ByteArray.size]; omega) u hp w).mono ?_
      rintro e w' ⟨rfl, hw⟩
      refine ⟨_, rfl, ⟨u, Lib.atoiAll_bounds hp, Or.inl ⟨rfl, hp⟩⟩, ?_⟩
      rcases hw with rfl | ⟨t, rfl⟩
      · exact Below.refl _ _
      · exact Lib.bytesWorld_below _ _ _
    · obtain ⟨te, pe, hv⟩ := (hL.keep hk).syn
      refine (Tryz.strconv_Atoi_syntax ⟨l.toArray⟩ (by simp [ByteArray.size]; omega) hp _ w hv (Or.inr ⟨te, pe, rfl⟩)).mono ?_
      rintro e w' ⟨N, rfl, _, _, hb⟩
      exact ⟨_, rfl, ⟨0, by omega, Or.inr ⟨_, _, rfl, by rw [hp]; intro z; simp⟩⟩, hb⟩
    · obtain ⟨te, pe, hv⟩ := (hL.keep hk).rng
      refine (Tryz.strconv_Atoi_range ⟨l.toArray⟩ (by simp [ByteArray.size]; omega) hp _ w hv (Or.inr ⟨te, pe, rfl⟩)).mono ?_
      rintro e w' ⟨N, rfl, _, _, hb⟩
      refine ⟨_, rfl, ⟨Lib.atoiSat l, by unfold Lib.atoiSat; split <;> omega, Or.inr ⟨_, _, rfl, by rw [hp]; intro z; simp⟩⟩, hb⟩
  refine key.mono ?_
  rintro e w' ⟨v, rfl, hp, h1, h2, h3, h4, h5⟩
  exact ⟨v, _, rfl, ⟨hp, rfl⟩, ⟨S, hS.keep h4 fun k hk => h5 k hk⟩, ⟨h1, h2, h3, h4⟩⟩
end Go.RX.St
