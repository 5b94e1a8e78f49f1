/- Reading of moves, the program's side: what the functions leave to be shown (F D); printed by a program of ours (wip/tools). · Reading of moves, the program's side: numbers, devices. · Reading of moves, the program's side: devices, whole numbers. · Reading of moves: fields between blanks, plainly. · Contracts of the library, laid at this program by the shelf (plain mode); kept are those that are used. · Reading of a text: lines without their remarks, plainly. -/
import Derived.Test.YtgaabcinjbjbgaaDoorM25
import Derived.Test.YtgaabcinjbjbgaaDoorM36
import Derived.Test.YtgaabcinjbjbgaaDoorM26
import Derived.Test.YtgaabcinjbjbgaaDoorM38
import Derived.Test.YtgaabcinjbjbgaaDoorM29
import Derived.Test.YtgaabcinjbjbgaaDoorM32
import Derived.Lib.AtoiAllCases
import Derived.Lib.FieldsP
import Derived.Lib.TrimU
import Derived.Shelf.Strings.Builder1
import Derived.Shelf.Small.Strs
import Derived.Shelf.Strconv.Itoa0
import Derived.Shelf.Strconv.Itoa1
import Derived.Shelf.LaysM
import Derived.Shelf.Strconv.Itoa2
import Derived.Shelf.Strconv.Itoa3
import Derived.Shelf.Strings.Search1
import Derived.Shelf.Strings.Search2
import Derived.Shelf.Strings.Search3
import Derived.Shelf.Strings.Cut
import Derived.Shelf.Strings.Count
import Derived.Shelf.Strings.Split
import Derived.Test.YtgaabcinjbjbgaaDoorProg
import Derived.Test.YtgaabcinjbjbgaaDoorM28

namespace Go.RX.St
open Go.RX Go.Proofs
noncomputable def cxF : Ctx := { T := TT, FT := FT, callees := calleesF }
noncomputable def cxD : Ctx := { T := TT, FT := FT, callees := calleesD }
set_option maxRecDepth 100000
noncomputable def fm_fit8 : F := runF cxF 66 ([SV.strE (E.avar 0), SV.int (Go.IntKind.i64) (E.lit 8)]) ([Ck.abs 0]) ({ b := 0, v := 0, i := 0, a := 1, bo := 0, p := 1, r := 0 }) Tryd.f66
def st_fit8 (P : Program) (Post : Value → List HP → Prop) (A0 : Nat → Int) (p0 : HP) : Prop :=
 ∃ post, Meets P 69 [.string ⟨(strD A0).toArray⟩, .int .i64 10, .int .i64 8] [p0] post ∧
 ∀ x hs, post x hs → ∃ v0 : V1, ∃ x0 : Int, ∃ q0 : Bool, x = .tuple #[.int .u64 x0, (if q0 then ifaceOf v0.v else .nilIface)] ∧ hs = [p0] ∧
 Fork (¬ (q0 = true)) (
 ∃ post, Meets P 35 [.int .u64 x0, .int .i64 10] [p0] post ∧
 ∀ x hs, post x hs → ∃ A1 : (Nat → Int), x = .string ⟨(strD A1).toArray⟩ ∧ hs = [p0] ∧
 Post (.tuple #[.int .u8 (IntKind.wrap .u8 x0), .bool (strD A1 == strD A0)]) []) (
 Post (.tuple #[.int .u8 (IntKind.wrap .u8 x0), .bool false]) [])
theorem vc_fit8 (P : Program) (Post : Value → List HP → Prop) (A0 : Nat → Int) (p0 : HP) (L : Nat → LC) : VC P (fun v _ => Post v []) fm_fit8 { iv := [], av := [A0], bo := [], bv := [], vv := [], pv := [p0] } L = st_fit8 P Post A0 p0 := by kernel_rfl
theorem run_fit8 : runF cxF 66 ([SV.strE (E.avar 0), SV.int (Go.IntKind.i64) (E.lit 8)]) ([Ck.abs 0]) ({ b := 0, v := 0, i := 0, a := 1, bo := 0, p := 1, r := 0 }) Tryd.f66 = fm_fit8 := rfl
noncomputable def fm_fit64 : F := runF cxF 52 ([SV.strE (E.avar 0), SV.int (Go.IntKind.i64) (E.lit 64)]) ([Ck.abs 0]) ({ b := 0, v := 0, i := 0, a := 1, bo := 0, p := 1, r := 0 }) Tryd.f52
def st_fit64 (P : Program) (Post : Value → List HP → Prop) (A0 : Nat → Int) (p0 : HP) : Prop :=
 ∃ post, Meets P 69 [.string ⟨(strD A0).toArray⟩, .int .i64 10, .int .i64 64] [p0] post ∧
 ∀ x hs, post x hs → ∃ v0 : V1, ∃ x0 : Int, ∃ q0 : Bool, x = .tuple #[.int .u64 x0, (if q0 then ifaceOf v0.v else .nilIface)] ∧ hs = [p0] ∧
 Fork (¬ (q0 = true)) (
 ∃ post, Meets P 35 [.int .u64 x0, .int .i64 10] [p0] post ∧
 ∀ x hs, post x hs → ∃ A1 : (Nat → Int), x = .string ⟨(strD A1).toArray⟩ ∧ hs = [p0] ∧
 Post (.tuple #[.int .u64 x0, .bool (strD A1 == strD A0)]) []) (
 Post (.tuple #[.int .u64 x0, .bool false]) [])
theorem vc_fit64 (P : Program) (Post : Value → List HP → Prop) (A0 : Nat → Int) (p0 : HP) (L : Nat → LC) : VC P (fun v _ => Post v []) fm_fit64 { iv := [], av := [A0], bo := [], bv := [], vv := [], pv := [p0] } L = st_fit64 P Post A0 p0 := by kernel_rfl
theorem run_fit64 : runF cxF 52 ([SV.strE (E.avar 0), SV.int (Go.IntKind.i64) (E.lit 64)]) ([Ck.abs 0]) ({ b := 0, v := 0, i := 0, a := 1, bo := 0, p := 1, r := 0 }) Tryd.f52 = fm_fit64 := rfl
noncomputable def fm_pdev : F := runF cxD 50 ([SV.strE (E.avar 0)]) ([Ck.abs 0]) ({ b := 0, v := 0, i := 0, a := 1, bo := 0, p := 1, r := 0 }) Tryd.f50
def st_pdev (P : Program) (Post : Value → List HP → Prop) (A0 : Nat → Int) (p0 : HP) : Prop :=
 ∀ _ : Nat, ∃ post, Meets P 28 [.string ⟨(strD A0).toArray⟩, .string ⟨#[47]⟩] [p0] post ∧
 ∀ x hs, post x hs → ∃ A1 : (Nat → Int), ∃ A2 : (Nat → Int), ∃ q0 : Bool, x = .tuple #[.string ⟨(strD A1).toArray⟩, .string ⟨(strD A2).toArray⟩, .bool q0] ∧ hs = [p0] ∧
 ∃ post, Meets P 66 [.string ⟨(strD A1).toArray⟩, .int .i64 8] [p0] post ∧
 ∀ x hs, post x hs → ∃ x0 : Int, ∃ q1 : Bool, x = .tuple #[.int .u8 x0, .bool q1] ∧ hs = [p0] ∧
 ∃ post, Meets P 66 [.string ⟨(strD A2).toArray⟩, .int .i64 8] [p0] post ∧
 ∀ x hs, post x hs → ∃ x1 : Int, ∃ q2 : Bool, x = .tuple #[.int .u8 x1, .bool q2] ∧ hs = [p0] ∧
 Post (.tuple #[.agg #[.int .u8 x0, .int .u8 x1], .bool ((q0 && q1) && q2)]) []
theorem vc_pdev (P : Program) (Post : Value → List HP → Prop) (A0 : Nat → Int) (p0 : HP) (L : Nat → LC) : VC P (fun v _ => Post v []) fm_pdev { iv := [], av := [A0], bo := [], bv := [], vv := [], pv := [p0] } L = st_pdev P Post A0 p0 := by kernel_rfl
theorem run_pdev : runF cxD 50 ([SV.strE (E.avar 0)]) ([Ck.abs 0]) ({ b := 0, v := 0, i := 0, a := 1, bo := 0, p := 1, r := 0 }) Tryd.f50 = fm_pdev := rfl
end Go.RX.St

namespace Go.RX.St
open Go Go.RX Go.Proofs Go.RX.Ln Go.RX.Su Go.RX.Lp Go.RX.Lf
variable {n0 : Nat} {w0 : World}
theorem pu64_meets (hL : Laid0 w0 n0) (l : List UInt8) (hl : l.length ≤ 281474976710656) : Meets Tryd.prog 69 [strV l, .int .i64 10, .int .i64 64] [keptHP n0 w0] fun x hs => PU 64 l x ∧ hs = [keptHP n0 w0] := by
  refine meets_PU fun w hk => ?_
  rcases hp : Lib.parseUintB 64 l with u | _ | _
  · refine (Tryd.strconv_ParseUint_10_at64_ok ⟨l.toArray⟩ (by simp [ByteArray.size]; omega) u hp w).mono ?_
    rintro e w' ⟨rfl, hw⟩
    exact ⟨_, rfl, ⟨u, Lib.parseUintB_le hp, Or.inl ⟨rfl, hp⟩⟩, below_bytes w _ hw⟩
  · obtain ⟨te, pe, hv⟩ := (hL.keep hk).syn
    refine (Tryd.strconv_ParseUint_10_at64_syntax ⟨l.toArray⟩ (by simp [ByteArray.size]; omega) hp _ w hv (Or.inr ⟨te, pe, rfl⟩)).mono ?_
    rintro e w' ⟨N, rfl, _, _, hb⟩
    exact ⟨_, rfl, ⟨0, Nat.zero_le _, Or.inr ⟨_, _, rfl, by rw [hp]; simp, numP_syntax hp⟩⟩, hb⟩
  · obtain ⟨te, pe, hv⟩ := (hL.keep hk).rng
    refine (Tryd.strconv_ParseUint_10_at64_range ⟨l.toArray⟩ (by simp [ByteArray.size]; omega) hp _ w hv (Or.inr ⟨te, pe, rfl⟩)).mono ?_
    rintro e w' ⟨N, rfl, _, _, hb⟩
    exact ⟨_, rfl, ⟨18446744073709551615, Nat.le_refl _, Or.inr ⟨_, _, rfl, by rw [hp]; simp, numP_range hp⟩⟩, hb⟩
theorem numR_ok (B : Nat) (hB : 2 ^ B - 1 < 18446744073709551616) {l : List UInt8} {n : Nat} (h : Lib.parseUintB B l = .ok n) : numR (2 ^ B - 1) l = if l = Lib.decDigits n then some n else none := by
  by_cases hl : l = Lib.decDigits n
  · rw [if_pos hl]
    exact (numR_iff _ hB l n).2 ⟨Lib.parseUintB_le h, hl⟩
  · rw [if_neg hl]
    rcases hn : numR (2 ^ B - 1) l with _ | m
    · rfl
    · obtain ⟨h1, rfl⟩ := (numR_iff _ hB _ _).1 hn
      rw [parseB_dec B m (by omega) h1] at h
      cases h
      exact absurd rfl hl
theorem numR_no (B : Nat) (hB : 2 ^ B - 1 < 18446744073709551616) {l : List UInt8} {n : Nat} (h : numP B l = (n, false)) : numR (2 ^ B - 1) l = none := by
  rcases hn : numR (2 ^ B - 1) l with _ | m
  · rfl
  · obtain ⟨h1, rfl⟩ := (numR_iff _ hB _ _).1 hn
    rw [numP_dec B m (by omega) h1] at h
    cases h
def FitQ (k : IntKind) (M : Int) (o : Option Nat) (v : Value) : Prop := ∃ x : Int, (0 ≤ x ∧ x ≤ M) ∧ v = .tuple #[.int k x, .bool o.isSome] ∧ ∀ n, o = some n → x = n
theorem fit8_meets (hL : Laid0 w0 n0) (l : List UInt8) (hl : l.length ≤ 281474976710656) : Meets Tryd.prog 66 [strV l, .int .i64 8] [keptHP n0 w0] fun x hs => FitQ .u8 255 (numR 255 l) x ∧ hs = [keptHP n0 w0] := by
  have e0 : strV l = (SV.strE (.avar 0)).val { av := [rowS l], pv := [keptHP n0 w0] } := strV_row l
  rw [e0]
  refine Meets.of_look (C := cxF) (cnt := { a := 1, p := 1 }) (ρ := { av := [rowS l], pv := [keptHP n0 w0] }) okT okFT okM Tryd.func66 (by constructor <;> rfl) rfl rfl
    (fun v => FitQ .u8 255 (numR 255 l) v) (args := [.strE (.avar 0), .int .i64 (.lit 8)]) run_fit8 (vc_fit8 Tryd.prog (fun v _ => FitQ .u8 255 (numR 255 l) v) (rowS l) (keptHP n0 w0) (fun _ => LC.none)) ?_
  unfold st_fit8
  rw [strD_rowS]
  refine ⟨_, pu8_meets hL l hl, ?_⟩
  rintro x _ ⟨⟨n, hn, h⟩, rfl⟩
  have hn : n ≤ 255 := hn
  rcases h with ⟨rfl, hp⟩ | ⟨t, y, rfl, hne, hnp⟩
  · refine ⟨V1.nil, n, false, rfl, rfl, fun _ => ?_, fun h => absurd Bool.false_ne_true h⟩
    refine ⟨_, fmt_meets hL n (by omega), ?_⟩
    rintro _ _ ⟨rfl, rfl⟩
    refine ⟨rowS (Lib.decDigits n), strV_row _, rfl, ?_⟩
    have h8 := numR_ok 8 (by decide) hp
    rw [show (2 : Nat) ^ 8 - 1 = 255 from rfl] at h8
    refine ⟨n, by omega, ?_, ?_⟩
    · rw [u8_in _ (by omega), strD_rowS, h8]
      by_cases hd : l = Lib.decDigits n
      · rw [if_pos hd, ← hd]; simp
      · rw [if_neg hd]
        have : (Lib.decDigits n == l) = false := by simpa using fun e => hd e.symm
        rw [this]; rfl
    · intro m hm
      rw [h8] at hm
      split at hm
      · cases hm; rfl
      · cases hm
  · refine ⟨⟨.iface t y, rfl⟩, n, true, rfl, rfl, fun h => absurd rfl h, fun _ => ?_⟩
    have h8 := numR_no 8 (by decide) hnp
    rw [show (2 : Nat) ^ 8 - 1 = 255 from rfl] at h8
    refine ⟨n, by omega, ?_, ?_⟩
    · rw [u8_in _ (by omega), h8]; rfl
    · intro m hm
      rw [h8] at hm
      cases hm
theorem fit64_meets (hL : Laid0 w0 n0) (l : List UInt8) (hl : l.length ≤ 281474976710656) : Meets Tryd.prog 52 [strV l, .int .i64 64] [keptHP n0 w0] fun x hs => FitQ .u64 18446744073709551615 (numR 18446744073709551615 l) x ∧ hs = [keptHP n0 w0] := by
  have e0 : strV l = (SV.strE (.avar 0)).val { av := [rowS l], pv := [keptHP n0 w0] } := strV_row l
  rw [e0]
  refine Meets.of_look (C := cxF) (cnt := { a := 1, p := 1 }) (ρ := { av := [rowS l], pv := [keptHP n0 w0] }) okT okFT okM Tryd.func52 (by constructor <;> rfl) rfl rfl
    (fun v => FitQ .u64 18446744073709551615 (numR 18446744073709551615 l) v) (args := [.strE (.avar 0), .int .i64 (.lit 64)]) run_fit64 (vc_fit64 Tryd.prog (fun v _ => FitQ .u64 18446744073709551615 (numR 18446744073709551615 l) v) (rowS l) (keptHP n0 w0) (fun _ => LC.none)) ?_
  unfold st_fit64
  rw [strD_rowS]
  refine ⟨_, pu64_meets hL l hl, ?_⟩
  rintro x _ ⟨⟨n, hn, h⟩, rfl⟩
  have hn : n ≤ 18446744073709551615 := hn
  rcases h with ⟨rfl, hp⟩ | ⟨t, y, rfl, hne, hnp⟩
  · refine ⟨V1.nil, n, false, rfl, rfl, fun _ => ?_, fun h => absurd Bool.false_ne_true h⟩
    refine ⟨_, fmt_meets hL n (by omega), ?_⟩
    rintro _ _ ⟨rfl, rfl⟩
    refine ⟨rowS (Lib.decDigits n), strV_row _, rfl, ?_⟩
    have h8 := numR_ok 64 (by decide) hp
    rw [show (2 : Nat) ^ 64 - 1 = 18446744073709551615 from rfl] at h8
    refine ⟨n, by omega, ?_, ?_⟩
    · rw [strD_rowS, h8]
      by_cases hd : l = Lib.decDigits n
      · rw [if_pos hd, ← hd]; simp
      · rw [if_neg hd]
        have : (Lib.decDigits n == l) = false := by simpa using fun e => hd e.symm
        rw [this]; rfl
    · intro m hm
      rw [h8] at hm
      split at hm
      · cases hm; rfl
      · cases hm
  · refine ⟨⟨.iface t y, rfl⟩, n, true, rfl, rfl, fun h => absurd rfl h, fun _ => ?_⟩
    have h8 := numR_no 64 (by decide) hnp
    rw [show (2 : Nat) ^ 64 - 1 = 18446744073709551615 from rfl] at h8
    refine ⟨n, by omega, ?_, ?_⟩
    · rw [h8]; rfl
    · intro m hm
      rw [h8] at hm
      cases hm
end Go.RX.St

namespace Go.RX.St
open Go Go.RX Go.Proofs Go.RX.Ln Go.RX.Su Go.RX.Lp Go.RX.Lf Go.RowKit
variable {n0 : Nat} {w0 : World}
theorem cut_cons (b c : UInt8) (l : List UInt8) : Lib.cut (b :: l) [c] = if b = c then ([], l, true) else if (Lib.cut l [c]).2.2 then (b :: (Lib.cut l [c]).1, (Lib.cut l [c]).2.1, true) else (b :: l, [], false) := by
  unfold Lib.cut
  rw [index_cons]
  by_cases h : b = c
  · simp [h]
  · rw [if_neg h, if_neg h]
    have hg := Lib.index_ge l [c]
    by_cases hi : Lib.index l [c] = -1
    · rw [if_pos hi, hi]
      simp
    · have h0 : 0 ≤ Lib.index l [c] := by omega
      have h1 : 0 ≤ Lib.index l [c] + 1 := by omega
      have h2 : (Lib.index l [c] + 1).toNat = (Lib.index l [c]).toNat + 1 := by omega
      simp [if_neg hi, if_pos h0, if_pos h1, h2]
theorem cut_nil (c : UInt8) : Lib.cut [] [c] = ([], [], false) := by
  unfold Lib.cut
  rw [index_nil]
  simp
def cutV (c : UInt8) (l : List UInt8) : List UInt8 × List UInt8 × Bool :=
  match cutR c l with
  | some (a, b) => (a, b, true)
  | none => (l, [], false)
theorem cut_R (c : UInt8) : ∀ l : List UInt8, Lib.cut l [c] = cutV c l
  | [] => cut_nil c
  | b :: r => by
    rw [cut_cons, cut_R c r]
    unfold cutV
    rw [cutR]
    by_cases h : b = c
    · rw [if_pos h, if_pos h]
    · rw [if_neg h, if_neg h]
      rcases cutR c r with _ | ⟨x, y⟩
      · rfl
      · rfl
theorem cutR_len (c : UInt8) : ∀ (l a b : List UInt8), cutR c l = some (a, b) → a.length ≤ l.length ∧ b.length ≤ l.length
  | [], a, b, h => by cases h
  | x :: r, a, b, h => by
    rw [cutR] at h
    split at h
    · cases h; simp
    · rw [Option.map_eq_some_iff] at h
      obtain ⟨⟨p, q⟩, hp, he⟩ := h
      cases he
      have := cutR_len c r p q hp
      simp
      omega
theorem pdev_meets (hL : Laid0 w0 n0) (l : List UInt8) (hl : l.length ≤ 1000000) : Meets Tryd.prog 50 [strV l] [keptHP n0 w0] fun x hs => DevQ (devR l) x ∧ hs = [keptHP n0 w0] := by
  have e0 : strV l = (SV.strE (.avar 0)).val { av := [rowS l], pv := [keptHP n0 w0] } := strV_row l
  rw [e0]
  refine Meets.of_look (C := cxD) (cnt := { a := 1, p := 1 }) (ρ := { av := [rowS l], pv := [keptHP n0 w0] }) okT okFT okM Tryd.func50 (by constructor <;> rfl) rfl rfl
    (fun v => DevQ (devR l) v) (args := [.strE (.avar 0)]) run_pdev (vc_pdev Tryd.prog (fun v _ => DevQ (devR l) v) (rowS l) (keptHP n0 w0) (fun _ => LC.none)) ?_
  unfold st_pdev
  rw [strD_rowS]
  refine fun _ => ⟨_, cut_meets hL l [47] (by omega), ?_⟩
  rintro x _ ⟨rfl, rfl⟩
  rw [cut_R]
  have key : ∃ a b t, cutV 47 l = (a, b, t) ∧ a.length ≤ l.length ∧ b.length ≤ l.length ∧ devR l = if t then (match numR 255 a, numR 255 b with | some x, some y => some (x, y) | _, _ => none) else none := by
    rcases hc : cutR 47 l with _ | ⟨a, b⟩
    · exact ⟨l, [], false, by rw [cutV, hc], Nat.le_refl _, Nat.zero_le _, by rw [devR, hc]; rfl⟩
    · have := cutR_len 47 l a b hc
      exact ⟨a, b, true, by rw [cutV, hc], this.1, this.2, by rw [devR, hc]; rfl⟩
  obtain ⟨a, b, t, hk, ha, hb, hd⟩ := key
  rw [hk]
  refine ⟨rowS a, rowS b, t, ?_, rfl, ?_⟩
  · rw [strD_rowS, strD_rowS]; rfl
  rw [strD_rowS, strD_rowS]
  refine ⟨_, fit8_meets hL a (by omega), ?_⟩
  rintro x _ ⟨⟨x0, hx0, rfl, h0⟩, rfl⟩
  refine ⟨x0, _, rfl, rfl, _, fit8_meets hL b (by omega), ?_⟩
  rintro x _ ⟨⟨x1, hx1, rfl, h1⟩, rfl⟩
  refine ⟨x1, _, rfl, rfl, x0, x1, hx0.1, hx0.2, hx1.1, hx1.2, ?_, ?_⟩
  · rw [hd]
    cases t <;> rcases numR 255 a with _ | p <;> rcases numR 255 b with _ | q <;> rfl
  · intro p hp
    rw [hd] at hp
    cases t
    · cases hp
    · rcases hna : numR 255 a with _ | u
      · rw [hna] at hp; cases hp
      · rcases hnb : numR 255 b with _ | v
        · rw [hna, hnb] at hp; cases hp
        · rw [hna, hnb] at hp
          cases hp
          exact ⟨h0 u hna, h1 v hnb⟩
theorem p10_dec : ∀ u : Nat, u < 18446744073709551616 → ∀ r, Lib.parseUint10 0 (Lib.decDigits u ++ r) = Lib.parseUint10 u r := by
  intro u
  induction u using Nat.strongRecOn with
  | _ u ih =>
    intro hu r
    rw [Lib.decDigits]
    by_cases h : u < 10
    · rw [dif_pos h]
      have e : (UInt8.ofNat (48 + u)).toNat = 48 + u := by rw [UInt8.toNat_ofNat']; omega
      rw [List.singleton_append, Lib.parseUint10, e, if_pos (by omega), if_neg (by omega), if_neg (by omega)]
      congr 1
      omega
    · rw [dif_neg h, List.append_assoc, ih (u / 10) (by omega) (by omega)]
      have e : (UInt8.ofNat (48 + u % 10)).toNat = 48 + u % 10 := by rw [UInt8.toNat_ofNat']; omega
      rw [List.singleton_append, Lib.parseUint10, e, if_pos (by omega), if_neg (by omega), if_neg (by omega)]
      congr 1
      omega
theorem mag_dec (u : Nat) (hu : u < 18446744073709551616) : Lib.parseMag (Lib.decDigits u) = .ok u := by
  have := p10_dec u hu []
  rw [List.append_nil] at this
  unfold Lib.parseMag
  rw [if_neg (dec_ne u), this]
  rfl
theorem dec_first (u : Nat) : ∃ c r, Lib.decDigits u = c :: r ∧ 48 ≤ c.toNat := by
  induction u using Nat.strongRecOn with
  | _ u ih =>
    rw [Lib.decDigits]
    by_cases h : u < 10
    · rw [dif_pos h]
      exact ⟨_, [], rfl, by rw [UInt8.toNat_ofNat']; omega⟩
    · rw [dif_neg h]
      obtain ⟨c, r, e, hc⟩ := ih (u / 10) (by omega)
      rw [e]
      exact ⟨c, _, rfl, hc⟩
theorem atoi_itoa (z : Int) (h0 : -9223372036854775808 ≤ z) (h1 : z ≤ 9223372036854775807) : Lib.atoiAll (Lib.itoa z) = .ok z := by
  unfold Lib.itoa
  by_cases h : z < 0
  · rw [if_pos h, Lib.atoiAll_minus, mag_dec _ (by omega)]
    simp only [Lib.signed]
    rw [if_neg (by omega)]
    congr 1
    omega
  · rw [if_neg h]
    obtain ⟨c, r, e, hc⟩ := dec_first z.toNat
    rw [e, Lib.atoiAll_plain c r (by omega) (by omega), ← e, mag_dec _ (by omega)]
    simp only [Lib.signless]
    rw [if_neg (by omega)]
    congr 1
    omega
theorem wholeR_ok {l : List UInt8} {n : Int} (h : Lib.atoiAll l = .ok n) : wholeR l = if l = Lib.itoa n then some n else none := by
  have hb := Lib.atoiAll_bounds h
  by_cases hl : l = Lib.itoa n
  · rw [if_pos hl]
    exact (wholeR_iff l n).2 ⟨hb, hl⟩
  · rw [if_neg hl]
    rcases hn : wholeR l with _ | m
    · rfl
    · obtain ⟨h1, rfl⟩ := (wholeR_iff _ _).1 hn
      rw [atoi_itoa m h1.1 h1.2] at h
      cases h
      exact absurd rfl hl
theorem wholeR_no {l : List UInt8} (h : ∀ n, Lib.atoiAll l ≠ .ok n) : wholeR l = none := by
  rcases hn : wholeR l with _ | m
  · rfl
  · obtain ⟨h1, rfl⟩ := (wholeR_iff _ _).1 hn
    exact absurd (atoi_itoa m h1.1 h1.2) (h m)
def AT (l : List UInt8) (v : Value) : Prop := ∃ n : Int, (-9223372036854775808 ≤ n ∧ n ≤ 9223372036854775807) ∧ ((v = .tuple #[.int .i64 n, .nilIface] ∧ Lib.atoiAll l = .ok n) ∨ ∃ t x, v = .tuple #[.int .i64 n, .iface t x] ∧ ∀ z, Lib.atoiAll l ≠ .ok z)
theorem atoi_meets (hL : Laid0 w0 n0) (l : List UInt8) (hl : l.length ≤ 281474976710656) : Meets Tryd.prog 51 [strV l] [keptHP n0 w0] fun x hs => AT l x ∧ hs = [keptHP n0 w0] := by
  intro w Fs ho
  have ho' := ho
  obtain ⟨S, hS⟩ := ho
  have hk := (hS.at_ 0 (keptHP n0 w0) rfl).1.2
  have key : Calls Tryd.prog 51 #[strV l] w fun e w' => ∃ v, e = .returned v ∧ AT l v ∧ Below w.heap.size w w' := by
    rcases hp : Lib.atoiAll l with u | _ | _
    · refine (Tryd.strconv_Atoi_ok ⟨l.toArray⟩ (by simp [ByteArray.size]; omega) u hp w).mono ?_
      rintro e w' ⟨rfl, hw⟩
      refine ⟨_, rfl, ⟨u, Lib.atoiAll_bounds hp, Or.inl ⟨rfl, hp⟩⟩, ?_⟩
      rcases hw with rfl | ⟨t, rfl⟩
      · exact Below.refl _ _
      · exact Lib.bytesWorld_below _ _ _
    · obtain ⟨te, pe, hv⟩ := (hL.keep hk).syn
      refine (Tryd.strconv_Atoi_syntax ⟨l.toArray⟩ (by simp [ByteArray.size]; omega) hp _ w hv (Or.inr ⟨te, pe, rfl⟩)).mono ?_
      rintro e w' ⟨N, rfl, _, _, hb⟩
      exact ⟨_, rfl, ⟨0, by omega, Or.inr ⟨_, _, rfl, by rw [hp]; intro z; simp⟩⟩, hb⟩
    · obtain ⟨te, pe, hv⟩ := (hL.keep hk).rng
      refine (Tryd.strconv_Atoi_range ⟨l.toArray⟩ (by simp [ByteArray.size]; omega) hp _ w hv (Or.inr ⟨te, pe, rfl⟩)).mono ?_
      rintro e w' ⟨N, rfl, _, _, hb⟩
      refine ⟨_, rfl, ⟨Lib.atoiSat l, by unfold Lib.atoiSat; split <;> omega, Or.inr ⟨_, _, rfl, by rw [hp]; intro z; simp⟩⟩, hb⟩
  refine key.mono ?_
  rintro e w' ⟨v, rfl, hp, h1, h2, h3, h4, h5⟩
  exact ⟨v, _, rfl, ⟨hp, rfl⟩, ⟨S, hS.keep h4 fun k hk => h5 k hk⟩, ⟨h1, h2, h3, h4⟩⟩
end Go.RX.St

namespace Go.RX.Su
open Go
theorem dec_ascii (s : ByteArray) (i : Nat) (h : (s.get! i).toNat < 128) : Utf8.decode s i = ((s.get! i).toNat, 1) := by
  unfold Utf8.decode
  simp only [Nat.add_zero]
  rw [if_pos h]
theorem dec_wide (s : ByteArray) (i : Nat) (h : ¬ (s.get! i).toNat < 128) : 128 ≤ (Utf8.decode s i).1 ∧ 1 ≤ (Utf8.decode s i).2 ∧ ∀ k, 1 ≤ k → k < (Utf8.decode s i).2 → i + k < s.size ∧ 128 ≤ (s.get! (i + k)).toNat := by
  have one : ∀ k : Nat, 1 ≤ k → k < 1 → i + k < s.size ∧ 128 ≤ (s.get! (i + k)).toNat := fun k h1 h2 => by omega
  unfold Utf8.decode
  simp only [Nat.add_zero]
  rw [if_neg h]
  split
  · rename_i hc
    simp only [Bool.and_eq_true, beq_iff_eq, decide_eq_true_eq] at hc
    split
    · refine ⟨by omega, by omega, fun k h1 h2 => ?_⟩
      obtain rfl : k = 1 := by simp at h2; omega
      omega
    · exact ⟨by decide, by decide, one⟩
  · split
    · rename_i hc
      simp only [Bool.and_eq_true, beq_iff_eq, decide_eq_true_eq] at hc
      split
      · rename_i hv
        simp only [Bool.and_eq_true, decide_eq_true_eq] at hv
        refine ⟨by omega, by omega, fun k h1 h2 => ?_⟩
        have : k = 1 ∨ k = 2 := by simp at h2; omega
        rcases this with rfl | rfl <;> omega
      · exact ⟨by decide, by decide, one⟩
    · split
      · rename_i hc
        simp only [Bool.and_eq_true, beq_iff_eq, decide_eq_true_eq] at hc
        split
        · rename_i hv
          simp only [Bool.and_eq_true, decide_eq_true_eq] at hv
          refine ⟨by omega, by omega, fun k h1 h2 => ?_⟩
          have : k = 1 ∨ k = 2 ∨ k = 3 := by simp at h2; omega
          rcases this with rfl | rfl | rfl <;> omega
        · exact ⟨by decide, by decide, one⟩
      · exact ⟨by decide, by decide, one⟩
def fieldsG : List UInt8 → List UInt8 → List (List UInt8)
  | [], w => if w = [] then [] else [w]
  | c :: r, w => if c ≠ 32 then fieldsG r (w ++ [c]) else (if w = [] then [] else [w]) ++ fieldsG r []
theorem fieldsG_app : ∀ (x r w : List UInt8), (∀ c ∈ x, c ≠ 32) → fieldsG (x ++ r) w = fieldsG r (w ++ x)
  | [], r, w, _ => by simp
  | c :: x, r, w, h => by
    rw [List.cons_append, fieldsG, if_pos (h c List.mem_cons_self), fieldsG_app x r _ fun y hy => h y (List.mem_cons_of_mem _ hy)]
    simp
theorem words_fields : ∀ (l w : List UInt8), wordsG l w = fieldsG (l.takeWhile fun c => c ≠ 35) w
  | [], w => rfl
  | c :: r, w => by
    rw [wordsG, List.takeWhile_cons]
    by_cases h35 : c = 35
    · subst h35
      simp [fieldsG]
    · by_cases h32 : c = 32
      · subst h32
        have e := words_fields r []
        simp only [ne_eq, decide_not] at e
        simp [fieldsG, e]
      · have e := words_fields r (w ++ [c])
        simp only [ne_eq, decide_not] at e
        simp [h35, h32, fieldsG, e]
end Go.RX.Su

namespace Go.Proofs
open Go.Shelf
def Tryd.lays143_ren : Go.Shelf.Ren := ⟨fun | 143 => 48 | 219 => 49 | 217 => 62 | 225 => 63 | 224 => 64 | 267 => 65 | 266 => 79 | 314 => 80 | n => n, fun | 9 => 9 | 3 => 3 | 4 => 4 | 5 => 5 | 46 => 81 | 146 => 129 | 51 => 121 | n => n, fun | 1 => 0 | n => n⟩
theorem Tryd.lays143 : Go.Proofs.Lays.n143 Tryd.prog Tryd.lays143_ren := {
  mixed := by kernel_rfl
  f143 := Tryd.func48.trans (congrArg some (by kernel_rfl))
  f217 := Tryd.func62.trans (congrArg some (by kernel_rfl))
  f219 := Tryd.func49.trans (congrArg some (by kernel_rfl))
  f224 := Tryd.func64.trans (congrArg some (by kernel_rfl))
  f225 := Tryd.func63.trans (congrArg some (by kernel_rfl))
  f266 := Tryd.func79.trans (congrArg some (by kernel_rfl))
  f267 := Tryd.func65.trans (congrArg some (by kernel_rfl))
  f314 := Tryd.func80.trans (congrArg some (by kernel_rfl))
  t3 := Tryd.underlying3
  a3 := Tryd.isAgg3
  z3 := Tryd.sizeOf3
  v3 := Tryd.zeroValue3
  t4 := Tryd.underlying4
  a4 := Tryd.isAgg4
  z4 := Tryd.sizeOf4
  v4 := Tryd.zeroValue4
  t5 := Tryd.underlying5
  a5 := Tryd.isAgg5
  z5 := Tryd.sizeOf5
  v5 := Tryd.zeroValue5
  t9 := Tryd.underlying9
  a9 := Tryd.isAgg9
  z9 := Tryd.sizeOf9
  v9 := Tryd.zeroValue9
  t46 := Tryd.underlying81
  a46 := Tryd.isAgg81
  z46 := Tryd.sizeOf81
  v46 := Tryd.zeroValue81
  t51 := Tryd.underlying121
  a51 := Tryd.isAgg121
  z51 := Tryd.sizeOf121
  v51 := Tryd.zeroValue121
  t146 := Tryd.underlying129
  a146 := Tryd.isAgg129
  z146 := Tryd.sizeOf129
  v146 := Tryd.zeroValue129
  g1 := by kernel_rfl }
open Go.RowKit Go.Lib in
theorem Tryd.strings_Index_one (s : ByteArray) (c : UInt8) (w : World) :
    Calls Tryd.prog 48 #[.string s, .string ⟨#[c]⟩] w fun e w' => e = .returned (.int .i64 (Lib.indexByte s.data.toList c)) ∧ w' = w := Any.strings_Index_one Tryd.lays143 s c w
end Go.Proofs

namespace Go.RX.Sw
open Go Go.RX Go.Proofs Go.RX.Su Go.RX.St
theorem cutR_while (c : UInt8) : ∀ l : List UInt8, (cutV c l).1 = l.takeWhile fun b => b ≠ c
  | [] => rfl
  | b :: r => by
    have ih := cutR_while c r
    unfold cutV at ih ⊢
    rw [cutR, List.takeWhile_cons]
    by_cases h : b = c
    · simp [h]
    · rw [if_neg h]
      rcases hr : cutR c r with _ | ⟨x, y⟩
      · rw [hr] at ih
        simp only [ne_eq, decide_not] at ih
        simp [h, ← ih]
      · rw [hr] at ih
        simp only [ne_eq, decide_not] at ih
        simp [h, ← ih]
theorem line_words (l : List UInt8) : fieldsG (Lib.cut l [35]).1 [] = wordsR l := by
  rw [cut_R, cutR_while, wordsR, words_fields]
theorem index_meets (s : List UInt8) (c : UInt8) : Meets Tryd.prog 48 [.string ⟨s.toArray⟩, .string ⟨#[c]⟩] [] fun x hs => x = .int .i64 (Lib.indexByte s c) ∧ hs = [] :=
  Au.meets_pure fun w => Go.Proofs.Tryd.strings_Index_one ⟨s.toArray⟩ c w
end Go.RX.Sw
