/- Reading of moves, the program's side: what the functions leave to be shown (B); printed by a program of ours (wip/tools). · Reading of moves, the program's side: bytes in digits. -/
import Derived.Test.YtgaabcinjbjbgaaDoorM25
import Derived.Test.YtgaabcinjbjbgaaDoorM36
import Derived.Test.YtgaabcinjbjbgaaDoorM26
import Derived.Test.YtgaabcinjbjbgaaDoorM38
import Derived.Test.YtgaabcinjbjbgaaDoorM29

namespace Go.RX.St
open Go.RX Go.Proofs
noncomputable def cxB : Ctx := { T := TT, FT := FT, loops := loopsB, callees := calleesB }
set_option maxRecDepth 100000
noncomputable def fm_pbytes : F := runF cxB 53 ([SV.strE (E.avar 0)]) ([]) ({ b := 0, v := 0, i := 0, a := 1, bo := 0, p := 0, r := 0 }) Tryd.f53
def st_pbytes (P : Program) (Post : Value → List HP → Prop) (A0 : Nat → Int) : Prop :=
 Fork (strD A0 = strD (rowLF [1, 45])) (
 Post (.tuple #[.slice none 0 0, .bool true]) []) (
 ∃ (I0x2 : Ext → Prop) (m0x2 : Ext → Nat), (∃ v1 : V1, ∃ x0 : Int, ∃ x1 : Int, ∃ A1 : (Nat → Int), x0 = 0 ∧ v1 = (⟨.slice none 0 0, rfl⟩ : V1) ∧ v1 = (⟨.slice none 0 0, rfl⟩ : V1) ∧ x1 = 0 ∧ (∀ j, j < (Int.toNat x1) → A1 j = (fun _ => 0) j) ∧ I0x2 ⟨[], [v1], [x0, x1], [A1], [], [], []⟩) ∧
 ∀ v1 : V1, ∀ x0 : Int, ∀ x1 : Int, ∀ A1 : (Nat → Int), I0x2 ⟨[], [v1], [x0, x1], [A1], [], [], []⟩ →
 Need (0 ≤ (A0 0)) (
 Fork (x0 < (A0 0)) (
 Need ((-9223372036854775808) ≤ (x0 + 1)) (
 Need ((x0 + 1) ≤ 9223372036854775807) (
 Need (((x0 + 1) = (A0 0)) ∨ ((-9223372036854775808) ≤ (x0 + 1))) (
 Need (((x0 + 1) = (A0 0)) ∨ ((x0 + 1) ≤ 9223372036854775807)) (
 Need (((x0 + 1) = (A0 0)) ∨ (0 ≤ x0)) (
 Need (((x0 + 1) = (A0 0)) ∨ (x0 ≤ (x0 + 1))) (
 Need (((x0 + 1) = (A0 0)) ∨ ((x0 + 1) ≤ (A0 0))) (
 Fork (¬ ((x0 + 1) = (A0 0))) (
 ∃ post, Meets P 70 [.string ⟨#[48, 49, 50, 51, 52, 53, 54, 55, 56, 57, 97, 98, 99, 100, 101, 102]⟩, .string ⟨(strD (updF (shiftF A0 (Int.toNat x0)) 0 ((x0 + 1) - x0))).toArray⟩] [] post ∧
 ∀ x hs, post x hs → ∃ q0 : Bool, x = .bool q0 ∧ hs = [] ∧
 Need ((¬ (q0 = true)) ∨ ((-9223372036854775808) ≤ (x0 + 1))) (
 Need ((¬ (q0 = true)) ∨ ((x0 + 1) ≤ 9223372036854775807)) (
 Need ((¬ (q0 = true)) ∨ ((-9223372036854775808) ≤ (x0 + 2))) (
 Need ((¬ (q0 = true)) ∨ ((x0 + 2) ≤ 9223372036854775807)) (
 Need ((¬ (q0 = true)) ∨ (0 ≤ (x0 + 1))) (
 Need ((¬ (q0 = true)) ∨ ((x0 + 1) ≤ (x0 + 2))) (
 Need ((¬ (q0 = true)) ∨ ((x0 + 2) ≤ (A0 0))) (
 Fork (q0 = true) (
 ∃ post, Meets P 70 [.string ⟨#[48, 49, 50, 51, 52, 53, 54, 55, 56, 57, 97, 98, 99, 100, 101, 102]⟩, .string ⟨(strD (updF (shiftF A0 (Int.toNat (x0 + 1))) 0 ((x0 + 2) - (x0 + 1)))).toArray⟩] [] post ∧
 ∀ x hs, post x hs → ∃ q1 : Bool, x = .bool q1 ∧ hs = [] ∧
 Fork (¬ (q1 = true)) (
 Post (.tuple #[.slice none 0 0, .bool false]) [sliHP true 5 1 v1.v (Int.toNat x1) (tabL (Int.toNat x1) [colI .u8 1 A1])]) (
 Need (0 ≤ x0) (
 Need (0 ≤ (x0 + 1)) (
 Need ((x0 + 1) < (A0 0)) (
 ∃ post, Meets P 71 [.string ⟨#[48, 49, 50, 51, 52, 53, 54, 55, 56, 57, 97, 98, 99, 100, 101, 102]⟩, .int .u8 ((sbyF A0) (Int.toNat x0))] [] post ∧
 ∀ x hs, post x hs → ∃ x2 : Int, x = .int .i64 x2 ∧ hs = [] ∧
 ∃ post, Meets P 71 [.string ⟨#[48, 49, 50, 51, 52, 53, 54, 55, 56, 57, 97, 98, 99, 100, 101, 102]⟩, .int .u8 ((sbyF A0) (Int.toNat (x0 + 1)))] [] post ∧
 ∀ x hs, post x hs → ∃ x3 : Int, x = .int .i64 x3 ∧ hs = [] ∧
 ∀ _ : Nat, Need (0 ≤ x1) (
 Need (((x1 + 1) * 1) ≤ 140737488355328) (
 ∀ v2 : V1, Need ((-9223372036854775808) ≤ (x0 + 2)) (
 Need ((x0 + 2) ≤ 9223372036854775807) (
 ∃ v1' : V1, ∃ x0' : Int, ∃ x1' : Int, ∃ A1' : (Nat → Int), x0' = (x0 + 2) ∧ v1' = v2 ∧ v1' = v2 ∧ x1' = (x1 + 1) ∧ (∀ j, j < (Int.toNat x1') → A1' j = (updF A1 (Int.toNat x1) (IntKind.wrap .u8 (iop .bor .i64 (iop .shl .i64 x2 4) x3))) j) ∧ I0x2 ⟨[], [v1'], [x0', x1'], [A1'], [], [], []⟩ ∧ m0x2 ⟨[], [v1'], [x0', x1'], [A1'], [], [], []⟩ < m0x2 ⟨[], [v1], [x0, x1], [A1], [], [], []⟩))))))))) (
 Post (.tuple #[.slice none 0 0, .bool false]) [sliHP true 5 1 v1.v (Int.toNat x1) (tabL (Int.toNat x1) [colI .u8 1 A1])]))))))))) (
 Post (.tuple #[.slice none 0 0, .bool false]) [sliHP true 5 1 v1.v (Int.toNat x1) (tabL (Int.toNat x1) [colI .u8 1 A1])]))))))))) (
 Post (.tuple #[v1.v, .bool (!(strD A0 == strD (rowLF [0])))]) [sliHP true 5 1 v1.v (Int.toNat x1) (tabL (Int.toNat x1) [colI .u8 1 A1])])))
theorem vc_pbytes (P : Program) (Post : Value → List HP → Prop) (A0 : Nat → Int) (L : Nat → LC) : VC P (fun v hs => Post v (hs.take 1)) fm_pbytes { iv := [], av := [A0], bo := [], bv := [], vv := [] } L = st_pbytes P Post A0 := by kernel_rfl
theorem run_pbytes : runF cxB 53 ([SV.strE (E.avar 0)]) ([]) ({ b := 0, v := 0, i := 0, a := 1, bo := 0, p := 0, r := 0 }) Tryd.f53 = fm_pbytes := rfl
end Go.RX.St

namespace Go.RX.St
open Go Go.RX Go.Proofs Go.RX.Ln Go.RX.Su Go.RowKit
def hexes : List UInt8 := [48, 49, 50, 51, 52, 53, 54, 55, 56, 57, 97, 98, 99, 100, 101, 102]
def hexZ (c : UInt8) : Int := match hexv c with | some x => x | none => -1
theorem hexZ_all : ∀ c : Fin 256, Lib.indexByte hexes (UInt8.ofNat c.val) = hexZ (UInt8.ofNat c.val) := by decide +kernel
theorem hexZ_at (c : UInt8) : Lib.indexByte hexes c = hexZ c := by
  have := hexZ_all ⟨c.toNat, c.toNat_lt⟩
  simpa using this
theorem nib : ∀ p q : Fin 16, IntKind.wrap .u8 (iop .bor .i64 (iop .shl .i64 (p.val : Int) 4) (q.val : Int)) = 16 * (p.val : Int) + q.val := by decide +kernel
theorem nib_at (p q : Nat) (hp : p < 16) (hq : q < 16) : IntKind.wrap .u8 (iop .bor .i64 (iop .shl .i64 (p : Int) 4) (q : Int)) = 16 * (p : Int) + q := nib ⟨p, hp⟩ ⟨q, hq⟩
theorem has_meets (c : UInt8) : Meets Tryd.prog 70 [strV hexes, strV [c]] [] fun x hs => x = .bool (hexv c).isSome ∧ hs = [] := by
  refine Au.meets_pure fun w => (Tryd.strings_Contains_one ⟨hexes.toArray⟩ c w).mono ?_
  rintro e w' ⟨rfl, rfl⟩
  refine ⟨?_, rfl⟩
  congr 2
  show decide (0 ≤ Lib.indexByte hexes c) = _
  rw [hexZ_at, hexZ]
  rcases hexv c with _ | x <;> simp
theorem at_meets (l : List UInt8) (i : Nat) (hi : i < l.length) : Meets Tryd.prog 71 [strV hexes, .int .u8 (sbyF (rowS l) i)] [] fun x hs => x = .int .i64 (hexZ (l[i]'hi)) ∧ hs = [] := by
  have := indexByte_meets hexes (sbyF (rowS l) i)
  rw [sby_row l i hi] at this ⊢
  rw [Int.toNat_natCast, show (l[i]'hi).toNat.toUInt8 = l[i]'hi by simp, hexZ_at] at this
  exact this
theorem one_row (l : List UInt8) (i : Nat) (hi : i < l.length) (p q : Int) (hp : p = i) (hq : q = i + 1) : strD (updF (shiftF (rowS l) p.toNat) 0 (q - p)) = [l[i]'hi] := by
  subst hp hq
  have := mid_rowS l i (i + 1) (by omega) (by omega)
  rw [show i + 1 - i = 1 by omega, List.drop_eq_getElem_cons hi] at this
  rw [Int.toNat_natCast]
  exact this
theorem unhexR_none (l : List UInt8) (h : l ≠ [45]) (hr : runH l none = none) : unhexR l = none := by
  unfold unhexR
  rw [if_neg h]
  split
  · rfl
  · exact hr
theorem pbytes_v (l : List UInt8) (hl : l.length ≤ 1000000) : Meets Tryd.prog 53 [strV l] [] (UnV (unhexR l)) := by
  have e0 : strV l = (SV.strE (.avar 0)).val { av := [rowS l] } := strV_row l
  rw [e0]
  have h := Meets.of_runE (C := cxB) (cnt := { a := 1 }) (ρ := { av := [rowS l] }) okT okFT okM Tryd.func53 (by constructor <;> rfl)
    (Post := fun x hs => ∃ hs', Ent (hs.take 1) hs' ∧ UnV (unhexR l) x hs') (args := [.strE (.avar 0)]) (hp := []) run_pbytes
    (vc_pbytes Tryd.prog (fun x hs => ∃ hs', Ent hs hs' ∧ UnV (unhexR l) x hs') (rowS l) (fun _ => LC.none)) ?_
  · refine Meets.post h ?_
    rintro x hs ⟨hs', h1, h2⟩
    exact ⟨hs', Ent.trans (Ent.sub (List.take_sublist 1 hs)) h1, h2⟩
  unfold st_pbytes
  rw [rowS0, strD_rowS, show strD (rowLF [1, 45]) = [45] from by decide, show strD (rowLF [0]) = [] from by decide]
  refine ⟨fun h => ?_, fun h => ?_⟩
  · refine ⟨_, Ent.nilSli 5 1, ?_⟩
    have : unhexR l = some [] := by unfold unhexR; rw [if_pos h]
    rw [this]
    exact ⟨⟨.slice none 0 0, rfl⟩, rfl, rfl⟩
  · refine ⟨fun e => (e.i.getD 0 0) % 2 = 0 ∧ (e.i.getD 0 0 = 0 → (e.v.getD 0 V1.nil).v = .slice none 0 0) ∧ ∃ bs, HexI l (e.i.getD 0 0) 0 (e.i.getD 1 0) (e.a.getD 0 fun _ => 0) bs, fun e => ((l.length : Int) - e.i.getD 0 0).toNat,
      ⟨_, 0, 0, fun _ => 0, rfl, rfl, rfl, rfl, fun _ _ => rfl, by simp, by intro _; rfl, [], ⟨by simp, by simp, by simp, by simp, by simp, by simp, by simp, by simp, by simp⟩⟩, ?_⟩
    rintro v q m A ⟨hev, hnil, bs, hI⟩
    simp only [List.getD_cons_zero, List.getD_cons_succ] at hev hnil hI
    have h0 := hI.q0
    have hmq := hI.mq
    have hm := hI.hm
    have hq1 := hI.q1
    refine ⟨by omega, fun _ => ⟨fun hq => ?_, fun hq => ?_⟩⟩
    · have bad : unhexR l = none → ∃ hs', Ent [sliHP true 5 1 v.v m.toNat (tabL m.toNat [colI .u8 1 A])] hs' ∧ UnV (unhexR l) (.tuple #[.slice none 0 0, .bool false]) hs' := by
        intro hu
        refine ⟨[], Ent.sub (List.nil_sublist _), ?_⟩
        rw [hu]
        exact ⟨rfl, rfl⟩
      have hql : q.toNat < l.length := by omega
      refine ⟨by omega, fun _ => ⟨by omega, fun _ => ⟨by omega, fun _ => ⟨by omega, fun _ => ⟨by omega, fun _ => ⟨by omega, fun _ => ⟨by omega, fun _ => ⟨fun hne => ?_, fun hne => ?_⟩⟩⟩⟩⟩⟩⟩⟩
      · rw [one_row l q.toNat hql q (q + 1) (by omega) (by omega)]
        refine ⟨_, has_meets (l[q.toNat]'hql), ?_⟩
        rintro x hs ⟨rfl, rfl⟩
        refine ⟨_, rfl, rfl, by omega, fun _ => ⟨by omega, fun _ => ⟨by omega, fun _ => ⟨by omega, fun _ => ⟨by omega, fun _ => ⟨by omega, fun _ => ⟨by omega, fun _ => ⟨fun hx => ?_, fun hx => ?_⟩⟩⟩⟩⟩⟩⟩⟩
        · obtain ⟨x, hx⟩ := Option.isSome_iff_exists.1 hx
          have hql2 : q.toNat + 1 < l.length := by omega
          rw [one_row l (q.toNat + 1) hql2 (q + 1) (q + 2) (by omega) (by omega)]
          refine ⟨_, has_meets (l[q.toNat + 1]'hql2), ?_⟩
          rintro z hs ⟨rfl, rfl⟩
          have hI1 := hI.even hql hx hev
          have hql2' : (q + 1).toNat < l.length := by omega
          have e1 : (q + 1).toNat = q.toNat + 1 := by omega
          refine ⟨_, rfl, rfl, fun hy => ?_, fun hy => ?_⟩
          · apply bad
            have hy2 : hexv (l[q.toNat + 1]'hql2) = none := by simpa using hy
            have hu := hI1.run
            rw [runH_bad l (q + 1).toNat hql2' _ (by simpa only [e1] using hy2)] at hu
            exact unhexR_none l h hu.symm
          · obtain ⟨y, hy⟩ := Option.isSome_iff_exists.1 (Classical.not_not.1 hy)
            have hI2 := hI1.odd hql2' (x := y) (by simpa only [e1] using hy) (by omega)
            rw [show q + 1 + 1 = q + 2 by omega, show 16 * (16 * 0 + (x : Int)) + (y : Int) = 16 * x + y by omega] at hI2
            refine ⟨h0, fun _ => ⟨by omega, fun _ => ⟨by omega, fun _ => ⟨_, at_meets l q.toNat hql, ?_⟩⟩⟩⟩
            rintro z hs ⟨rfl, rfl⟩
            refine ⟨_, rfl, rfl, _, at_meets l (q + 1).toNat hql2', ?_⟩
            rintro z hs ⟨rfl, rfl⟩
            have z1 : hexZ (l[q.toNat]'hql) = x := by unfold hexZ; rw [hx]
            have z2 : hexZ (l[(q + 1).toNat]'hql2') = y := by unfold hexZ; simp only [e1, hy]
            refine ⟨_, rfl, rfl, fun _ => ⟨by omega, fun _ => ⟨by omega, fun _ => fun v2 => ⟨by omega, fun _ => ⟨by omega, fun _ => ?_⟩⟩⟩⟩⟩
            rw [z1, z2, nib_at x y (hexv_lt _ hx) (hexv_lt _ hy)]
            refine ⟨v2, q + 2, m + 1, _, rfl, rfl, rfl, rfl, fun _ _ => rfl, ⟨?_, ?_, _, hI2⟩, ?_⟩
            all_goals simp only [List.getD_cons_zero, List.getD_cons_succ]
            · omega
            · intro hz; omega
            · omega
        · apply bad
          have hu := hI.run
          rw [runH_bad l q.toNat hql _ (by simpa using hx)] at hu
          exact unhexR_none l h hu.symm
      · apply bad
        unfold unhexR
        rw [if_neg h, if_pos (by omega)]
    · have hql : q = l.length := by omega
      by_cases hl0 : l = []
      · have hq0 : q = 0 := by rw [hql, hl0]; rfl
        refine ⟨[], Ent.sub (List.nil_sublist _), ?_⟩
        have hu : unhexR l = none := by unfold unhexR; rw [if_neg h, if_pos (.inl (by rw [hl0]; rfl))]
        rw [hu, hnil hq0, hl0]
        exact ⟨rfl, rfl⟩
      · have hlen : l.length ≠ 0 := fun e => hl0 (List.eq_nil_of_length_eq_zero e)
        have hr := hI.run
        rw [List.drop_eq_nil_of_le (by omega), if_pos hev] at hr
        refine ⟨_, Ent.refl _, ?_⟩
        rw [unhexR_some l h (by omega), ← hr]
        refine ⟨v, ?_, ?_⟩
        · have : (l == []) = false := by simpa using hl0
          rw [this]
          rfl
        · simp only [List.append_nil]
          rw [show m.toNat = bs.length by omega, tab_bytes bs A hI.hA]
theorem pbytes_meets (l : List UInt8) (hl : l.length ≤ 1000000) : Meets Tryd.prog 53 [strV l] [] (UnQ (unhexR l)) := by
  have h := Meets.know (Q := UnQ (unhexR l)) (pbytes_v l hl) ?_
  · exact Meets.post h fun _ _ h => ⟨_, Ent.refl _, h.2⟩
  · intro x hs hx w Fs o
    rcases hu : unhexR l with _ | bs
    · rw [hu] at hx
      exact hx
    · rw [hu] at hx
      obtain ⟨v, rfl, rfl⟩ := hx
      obtain ⟨e, he⟩ := owns_bsl o
      rw [he]
      exact ⟨e, rfl, rfl⟩
theorem pbytes_set (K : BSet) (l : List UInt8) (hl : l.length ≤ 1000000) : Meets Tryd.prog 53 [strV l] [setHP K] (UnS K (unhexR l)) := by
  refine Meets.post (Meets.frame (pbytes_meets l hl) [setHP K]) ?_
  rintro x hs ⟨hs0, rfl, h⟩
  rcases hu : unhexR l with _ | bs
  · rw [hu] at h
    obtain ⟨rfl, rfl⟩ := h
    exact ⟨_, Ent.refl _, rfl, rfl⟩
  · rw [hu] at h
    obtain ⟨e, rfl, rfl⟩ := h
    exact ⟨_, Ent.grow K (e, bs), e, rfl, rfl⟩
end Go.RX.St
