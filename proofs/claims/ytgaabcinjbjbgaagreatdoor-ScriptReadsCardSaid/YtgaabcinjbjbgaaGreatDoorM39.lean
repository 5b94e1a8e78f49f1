/- Reading of moves, the program's side: what the functions leave to be shown (B); printed by a program of ours (wip/tools). · Reading of moves, the document's side: bytes in digits. · Reading of moves: a line's words az a move, plainly; the memory of the moves' bytes. · Reading of moves, the program's side: bytes in digits. -/
import Derived.Test.YtgaabcinjbjbgaaGreatDoorM27
import Derived.Test.YtgaabcinjbjbgaaGreatDoorM28
import Derived.Test.YtgaabcinjbjbgaaGreatDoorM32
import Derived.Test.YtgaabcinjbjbgaaGreatDoorM36
import Derived.Test.YtgaabcinjbjbgaaGreatDoorM33
import Derived.Test.YtgaabcinjbjbgaaGreatDoorM34

namespace Go.RX.St
open Go.RX Go.Proofs
noncomputable def cxB : Ctx := { T := TT, FT := FT, loops := loopsB, callees := calleesB }
set_option maxRecDepth 100000
noncomputable def fm_pbytes : F := runF cxB 118 ([SV.strE (E.avar 0)]) ([]) ({ b := 0, v := 0, i := 0, a := 1, bo := 0, p := 0, r := 0 }) Tryz.f118
def st_pbytes (P : Program) (Post : Value → List HP → Prop) (A0 : Nat → Int) : Prop :=
 Fork (strD A0 = strD (rowLF [1, 45])) (
 Post (.tuple #[.slice none 0 0, .bool true]) []) (
 ∃ (I0x2 : Ext → Prop) (m0x2 : Ext → Nat), (∃ v1 : V1, ∃ x0 : Int, ∃ x1 : Int, ∃ A1 : (Nat → Int), x0 = 0 ∧ v1 = (⟨.slice none 0 0, rfl⟩ : V1) ∧ v1 = (⟨.slice none 0 0, rfl⟩ : V1) ∧ x1 = 0 ∧ (∀ j, j < (Int.toNat x1) → A1 j = (fun _ => 0) j) ∧ I0x2 ⟨[], [v1], [x0, x1], [A1], [], [], []⟩) ∧
 ∀ v1 : V1, ∀ x0 : Int, ∀ x1 : Int, ∀ A1 : (Nat → Int), I0x2 ⟨[], [v1], [x0, x1], [A1], [], [], []⟩ →
 Need (0 ≤ (A0 0)) (
 Fork (x0 < (A0 0)) (
 Need ((-9223372036854775808) ≤ (x0 + 1)) (
 Need ((x0 + 1) ≤ 9223372036854775807) (
 Need (((x0 + 1) = (A0 0)) ∨ ((-9223372036854775808) ≤ (x0 + 1))) (
 Need (((x0 + 1) = (A0 0)) ∨ ((x0 + 1) ≤ 9223372036854775807)) (
 Need (((x0 + 1) = (A0 0)) ∨ (0 ≤ x0)) (
 Need (((x0 + 1) = (A0 0)) ∨ (x0 ≤ (x0 + 1))) (
 Need (((x0 + 1) = (A0 0)) ∨ ((x0 + 1) ≤ (A0 0))) (
 Fork (¬ ((x0 + 1) = (A0 0))) (
 ∃ post, Meets P 150 [.string ⟨#[48, 49, 50, 51, 52, 53, 54, 55, 56, 57, 97, 98, 99, 100, 101, 102]⟩, .string ⟨(strD (updF (shiftF A0 (Int.toNat x0)) 0 ((x0 + 1) - x0))).toArray⟩] [] post ∧
 ∀ x hs, post x hs → ∃ q0 : Bool, x = .bool q0 ∧ hs = [] ∧
 Need ((¬ (q0 = true)) ∨ ((-9223372036854775808) ≤ (x0 + 1))) (
 Need ((¬ (q0 = true)) ∨ ((x0 + 1) ≤ 9223372036854775807)) (
 Need ((¬ (q0 = true)) ∨ ((-9223372036854775808) ≤ (x0 + 2))) (
 Need ((¬ (q0 = true)) ∨ ((x0 + 2) ≤ 9223372036854775807)) (
 Need ((¬ (q0 = true)) ∨ (0 ≤ (x0 + 1))) (
 Need ((¬ (q0 = true)) ∨ ((x0 + 1) ≤ (x0 + 2))) (
 Need ((¬ (q0 = true)) ∨ ((x0 + 2) ≤ (A0 0))) (
 Fork (q0 = true) (
 ∃ post, Meets P 150 [.string ⟨#[48, 49, 50, 51, 52, 53, 54, 55, 56, 57, 97, 98, 99, 100, 101, 102]⟩, .string ⟨(strD (updF (shiftF A0 (Int.toNat (x0 + 1))) 0 ((x0 + 2) - (x0 + 1)))).toArray⟩] [] post ∧
 ∀ x hs, post x hs → ∃ q1 : Bool, x = .bool q1 ∧ hs = [] ∧
 Fork (¬ (q1 = true)) (
 Post (.tuple #[.slice none 0 0, .bool false]) [sliHP true 5 1 v1.v (Int.toNat x1) (tabL (Int.toNat x1) [colI .u8 1 A1])]) (
 Need (0 ≤ x0) (
 Need (0 ≤ (x0 + 1)) (
 Need ((x0 + 1) < (A0 0)) (
 ∃ post, Meets P 58 [.string ⟨#[48, 49, 50, 51, 52, 53, 54, 55, 56, 57, 97, 98, 99, 100, 101, 102]⟩, .int .u8 ((sbyF A0) (Int.toNat x0))] [] post ∧
 ∀ x hs, post x hs → ∃ x2 : Int, x = .int .i64 x2 ∧ hs = [] ∧
 ∃ post, Meets P 58 [.string ⟨#[48, 49, 50, 51, 52, 53, 54, 55, 56, 57, 97, 98, 99, 100, 101, 102]⟩, .int .u8 ((sbyF A0) (Int.toNat (x0 + 1)))] [] post ∧
 ∀ x hs, post x hs → ∃ x3 : Int, x = .int .i64 x3 ∧ hs = [] ∧
 ∀ _ : Nat, Need (0 ≤ x1) (
 Need (((x1 + 1) * 1) ≤ 140737488355328) (
 ∀ v2 : V1, Need ((-9223372036854775808) ≤ (x0 + 2)) (
 Need ((x0 + 2) ≤ 9223372036854775807) (
 ∃ v1' : V1, ∃ x0' : Int, ∃ x1' : Int, ∃ A1' : (Nat → Int), x0' = (x0 + 2) ∧ v1' = v2 ∧ v1' = v2 ∧ x1' = (x1 + 1) ∧ (∀ j, j < (Int.toNat x1') → A1' j = (updF A1 (Int.toNat x1) (IntKind.wrap .u8 (iop .bor .i64 (iop .shl .i64 x2 4) x3))) j) ∧ I0x2 ⟨[], [v1'], [x0', x1'], [A1'], [], [], []⟩ ∧ m0x2 ⟨[], [v1'], [x0', x1'], [A1'], [], [], []⟩ < m0x2 ⟨[], [v1], [x0, x1], [A1], [], [], []⟩))))))))) (
 Post (.tuple #[.slice none 0 0, .bool false]) [sliHP true 5 1 v1.v (Int.toNat x1) (tabL (Int.toNat x1) [colI .u8 1 A1])]))))))))) (
 Post (.tuple #[.slice none 0 0, .bool false]) [sliHP true 5 1 v1.v (Int.toNat x1) (tabL (Int.toNat x1) [colI .u8 1 A1])]))))))))) (
 Post (.tuple #[v1.v, .bool (!(strD A0 == strD (rowLF [0])))]) [sliHP true 5 1 v1.v (Int.toNat x1) (tabL (Int.toNat x1) [colI .u8 1 A1])])))
theorem vc_pbytes (P : Program) (Post : Value → List HP → Prop) (A0 : Nat → Int) (L : Nat → LC) : VC P (fun v hs => Post v (hs.take 1)) fm_pbytes { iv := [], av := [A0], bo := [], bv := [], vv := [] } L = st_pbytes P Post A0 := by kernel_rfl
theorem run_pbytes : runF cxB 118 ([SV.strE (E.avar 0)]) ([]) ({ b := 0, v := 0, i := 0, a := 1, bo := 0, p := 0, r := 0 }) Tryz.f118 = fm_pbytes := rfl
end Go.RX.St

namespace Go.RX.Su
open Go Go.RX Go.Proofs Go.RX.Ln
def hexv (c : UInt8) : Option Nat := if 48 ≤ c.toNat ∧ c.toNat ≤ 57 then some (c.toNat - 48) else if 97 ≤ c.toNat ∧ c.toNat ≤ 102 then some (c.toNat - 87) else none
/-- Bytes of digits, one digit perhaps begun with. -/
def runH : List UInt8 → Option Nat → Option (List UInt8)
  | [], none => some []
  | [], some _ => none
  | c :: r, none => match hexv c with
    | none => none
    | some x => runH r (some x)
  | c :: r, some y => match hexv c with
    | none => none
    | some x => (runH r none).map (UInt8.ofNat (16 * y + x) :: ·)
def unhexR (l : List UInt8) : Option (List UInt8) := if l = [45] then some [] else if l.length = 0 ∨ l.length % 2 = 1 then none else runH l none
/-- Bytes az numbers, and their cells. -/
def byF (l : List UInt8) : Nat → Int := fun j => ((l.getD j 0).toNat : Int)
def byC (l : List UInt8) : List Value := tabL l.length [colI .u8 1 (byF l)]
theorem tab_bytes (l : List UInt8) (A : Nat → Int) (h : ∀ j, j < l.length → A j = byF l j) : tabL l.length [colI .u8 1 A] = byC l := by
  show tabF (fun i => [colI .u8 1 A].flatMap fun c => c i) l.length = tabF (fun i => [colI .u8 1 (byF l)].flatMap fun c => c i) l.length
  refine tabF_congr fun i hi => ?_
  simp [colI, segCells, h i hi]
theorem Ent.nilSli (t s : Nat) : Ent [] [sliHP true t s (.slice none 0 0) 0 []] := by
  intro w Fs ⟨S, hS⟩
  refine ⟨fun i => match i with | 0 => fun _ => False | i + 1 => S i, ⟨?_, ?_⟩⟩
  · intro i x hx
    match i, hx with
    | 0, hx =>
      simp at hx
      subst hx
      exact ⟨⟨by simp only [if_true]; exact ownsAt_nil w t s, fun k => ⟨False.elim, fun h => by simp [Value.ownBlock] at h⟩⟩, fun k h => h.elim⟩
    | i + 1, hx => exact hS.at_ i x (by simpa using hx)
  · intro i j x y hne hx hy hw k
    match i, j, hne, hx, hy with
    | 0, _, _, _, _ => exact fun h => h.elim
    | i + 1, 0, _, _, _ => exact fun _ h => h
    | i + 1, j + 1, hne, hx, hy => exact hS.apart i j x y (by omega) (by simpa using hx) (by simpa using hy) hw k
theorem u8_mod (x : Int) : IntKind.wrap .u8 x = x % 256 := by
  simp [IntKind.wrap, IntKind.bits, IntKind.signed]
/-- What the document's reader of bytes answers. -/
def UnQ (o : Option (List UInt8)) (x : Value) (hs : List HP) : Prop :=
  match o with
  | some bs => ∃ e : Int, x = .tuple #[bslV e, .bool true] ∧ hs = [sliHP true 5 1 (bslV e) bs.length (byC bs)]
  | none => x = .tuple #[bslV 0, .bool false] ∧ hs = []
/-- The same, the slice az it stands. -/
def UnV (o : Option (List UInt8)) (x : Value) (hs : List HP) : Prop :=
  match o with
  | some bs => ∃ v : V1, x = .tuple #[v.v, .bool true] ∧ hs = [sliHP true 5 1 v.v bs.length (byC bs)]
  | none => x = .tuple #[.slice none 0 0, .bool false] ∧ hs = []
theorem unhexR_some (l : List UInt8) (h1 : l ≠ [45]) (h2 : ¬ (l.length = 0 ∨ l.length % 2 = 1)) : unhexR l = runH l none := by
  unfold unhexR
  rw [if_neg h1, if_neg h2]
theorem hexv_lt (c : UInt8) {x : Nat} (h : hexv c = some x) : x < 16 := by
  unfold hexv at h
  split at h
  · cases h; omega
  · split at h
    · cases h; omega
    · cases h
theorem byF_put (bs : List UInt8) (A : Nat → Int) (x : Int) (hx : 0 ≤ x ∧ x ≤ 255) (hA : ∀ j, j < bs.length → A j = byF bs j) : ∀ j, j < (bs ++ [UInt8.ofNat x.toNat]).length → updF A bs.length x j = byF (bs ++ [UInt8.ofNat x.toNat]) j := by
  intro j hj
  simp only [List.length_append, List.length_singleton] at hj
  unfold updF byF
  by_cases h : j = bs.length
  · subst h
    rw [if_pos rfl, List.getD_eq_getElem?_getD, List.getElem?_append_right (by omega), Nat.sub_self]
    simp only [List.getElem?_cons_zero, Option.getD_some]
    rw [UInt8.toNat_ofNat']
    omega
  · rw [if_neg h, hA j (by omega), byF, List.getD_eq_getElem?_getD, List.getD_eq_getElem?_getD, List.getElem?_append_left (by omega)]
/-- One digit more. -/
theorem runH_digit (l : List UInt8) (q : Nat) (hq : q < l.length) (h : Option Nat) (x : Nat) (hx : hexv (l[q]'hq) = some x) :
    runH (l.drop q) h = match h with | none => runH (l.drop (q + 1)) (some x) | some y => (runH (l.drop (q + 1)) none).map (UInt8.ofNat (16 * y + x) :: ·) := by
  rw [List.drop_eq_getElem_cons hq]
  cases h <;> simp only [runH, hx]
theorem runH_bad (l : List UInt8) (q : Nat) (hq : q < l.length) (h : Option Nat) (hx : hexv (l[q]'hq) = none) : runH (l.drop q) h = none := by
  rw [List.drop_eq_getElem_cons hq]
  cases h <;> simp only [runH, hx]
/-- What the loop keeps. -/
structure HexI (l : List UInt8) (q d m : Int) (A : Nat → Int) (bs : List UInt8) : Prop where
  q0 : 0 ≤ q
  q1 : q ≤ l.length
  hm : m = bs.length
  mq : 2 * m ≤ q
  d0 : 0 ≤ d
  d1 : d < 16
  de : q % 2 = 0 → d = 0
  hA : ∀ j, j < bs.length → A j = byF bs j
  run : (runH (l.drop q.toNat) (if q % 2 = 0 then none else some d.toNat)).map (bs ++ ·) = runH l none
theorem HexI.odd {l : List UInt8} {q d m : Int} {A : Nat → Int} {bs : List UInt8} (h : HexI l q d m A bs) (hq : q.toNat < l.length) {x : Nat} (hx : hexv (l[q.toNat]'hq) = some x) (ho : q % 2 = 1) :
    HexI l (q + 1) 0 (m + 1) (updF A m.toNat (16 * d + x)) (bs ++ [UInt8.ofNat (16 * d + x).toNat]) := by
  have h0 := h.q0
  have h2 := hexv_lt _ hx
  have h3 := h.d0
  have h4 := h.d1
  have h5 := h.mq
  have h6 := h.hm
  refine ⟨by omega, by omega, by simp; omega, by omega, by omega, by omega, fun _ => rfl, ?_, ?_⟩
  · rw [show m.toNat = bs.length by omega]
    exact byF_put bs A (16 * d + x) (by omega) h.hA
  · rw [← h.run, runH_digit l _ hq _ x hx, if_pos (by omega), if_neg (by omega), show (q + 1).toNat = q.toNat + 1 by omega]
    simp only [Option.map_map]
    congr 1
    funext t
    simp only [Function.comp, List.append_assoc, List.singleton_append]
    rw [show (16 * d + (x : Int)).toNat = 16 * d.toNat + x by omega]
theorem HexI.even {l : List UInt8} {q d m : Int} {A : Nat → Int} {bs : List UInt8} (h : HexI l q d m A bs) (hq : q.toNat < l.length) {x : Nat} (hx : hexv (l[q.toNat]'hq) = some x) (ho : q % 2 = 0) :
    HexI l (q + 1) (16 * d + x) m A bs := by
  have h0 := h.q0
  have h2 := hexv_lt _ hx
  have h3 := h.de ho
  have h5 := h.mq
  refine ⟨by omega, by omega, h.hm, by omega, by omega, by omega, fun _ => by omega, h.hA, ?_⟩
  rw [← h.run, runH_digit l _ hq _ x hx, if_neg (by omega), if_pos ho, show (q + 1).toNat = q.toNat + 1 by omega, show (16 * d + (x : Int)).toNat = x by omega]
theorem hexv_dig (c : UInt8) (h : 48 ≤ c.toNat ∧ c.toNat ≤ 57) : hexv c = some (c.toNat - 48) := by unfold hexv; rw [if_pos h]
theorem hexv_let (c : UInt8) (h0 : ¬ (48 ≤ c.toNat ∧ c.toNat ≤ 57)) (h : 97 ≤ c.toNat ∧ c.toNat ≤ 102) : hexv c = some (c.toNat - 87) := by unfold hexv; rw [if_neg h0, if_pos h]
theorem hexv_no (c : UInt8) (h0 : ¬ (48 ≤ c.toNat ∧ c.toNat ≤ 57)) (h : ¬ (97 ≤ c.toNat ∧ c.toNat ≤ 102)) : hexv c = none := by unfold hexv; rw [if_neg h0, if_neg h]
theorem wrap3 (d : Int) (c k : Nat) (hd : 0 ≤ d ∧ d < 16) (hc : k ≤ c ∧ c ≤ k + 15) : IntKind.wrap .u8 (IntKind.wrap .u8 (IntKind.wrap .u8 (16 * d) + (c : Int)) - (k : Int)) = 16 * d + ((c - k : Nat) : Int) := by
  rw [u8_mod, u8_mod, u8_mod]
  omega
theorem rem2 (q : Int) (h : 0 ≤ q) : iop .rem .i64 q 2 = q % 2 := by
  simp only [iop]
  rw [Int.tmod_eq_emod_of_nonneg h]
theorem runhex_v (l : List UInt8) (hl : l.length ≤ 1000000) : Meets Tryz.prog 68 [strV l] [] (UnV (unhexR l)) := by
  have e0 : strV l = (SV.strE (.avar 0)).val { av := [rowS l] } := strV_row l
  rw [e0]
  have h := Meets.of_runE (C := cxA) (cnt := { a := 1 }) (ρ := { av := [rowS l] }) okT okFT okM Tryz.func68 (by constructor <;> rfl)
    (Post := fun x hs => ∃ hs', Ent hs hs' ∧ UnV (unhexR l) x hs') (args := [.strE (.avar 0)]) (hp := []) run_runhex
    (vc_runhex Tryz.prog (fun x hs => ∃ hs', Ent hs hs' ∧ UnV (unhexR l) x hs') (rowS l) (fun _ => LC.none)) ?_
  · exact Meets.post h fun _ _ h => h
  unfold st_runhex
  rw [rowS0, strD_rowS]
  have e45 : strD (rowLF [1, 45]) = [45] := by decide
  rw [e45]
  refine ⟨fun h => ?_, fun h => ⟨by omega, fun _ => ⟨by omega, fun _ => ⟨.inr rfl, fun _ => ⟨fun h2 => ?_, fun h2 => ?_⟩⟩⟩⟩⟩
  · refine ⟨_, Ent.nilSli 5 1, ?_⟩
    have : unhexR l = some [] := by unfold unhexR; rw [if_pos h]
    rw [this]
    exact ⟨⟨.slice none 0 0, rfl⟩, rfl, rfl⟩
  · rw [rem2 _ (by omega)] at h2
    refine ⟨_, Ent.refl _, ?_⟩
    have : unhexR l = none := by unfold unhexR; rw [if_neg h, if_pos (by omega)]
    rw [this]
    exact ⟨rfl, rfl⟩
  · rw [rem2 _ (by omega)] at h2
    have hu := unhexR_some l h (by omega)
    refine ⟨fun e => ∃ bs, HexI l (e.i.getD 0 0) (e.i.getD 1 0) (e.i.getD 2 0) (e.a.getD 0 fun _ => 0) bs, fun e => ((l.length : Int) - e.i.getD 0 0).toNat,
      ⟨_, 0, 0, 0, fun _ => 0, rfl, rfl, rfl, rfl, rfl, fun _ _ => rfl, [], ⟨by simp, by simp, by simp, by simp, by simp, by simp, by simp, by simp, by simp⟩⟩, ?_⟩
    rintro v q d m A ⟨bs, hI⟩
    simp only [List.getD_cons_zero, List.getD_cons_succ] at hI
    have h0 := hI.q0
    have hd0 := hI.d0
    have hd1 := hI.d1
    have hmq := hI.mq
    have hm := hI.hm
    refine ⟨by omega, fun _ => ⟨fun hq => ?_, fun hq => ?_⟩⟩
    · have hql : q.toNat < l.length := by omega
      rw [sby_row l _ hql, rem2 q h0]
      have hb := (l[q.toNat]'hql).toNat_lt
      refine ⟨by omega, fun _ => ⟨by omega, fun _ => ⟨by omega, fun _ => ⟨fun hc => ?_, fun hc => ⟨by omega, fun _ => ⟨by omega, fun _ => ⟨fun hc2 => ?_, fun hc2 => ?_⟩⟩⟩⟩⟩⟩⟩
      · have hx := hexv_dig (l[q.toNat]'hql) (by omega)
        have hw := wrap3 d (l[q.toNat]'hql).toNat 48 ⟨hd0, hd1⟩ (by omega)
        rw [show ((48 : Nat) : Int) = 48 from rfl] at hw
        rw [hw]
        refine ⟨fun ho => fun b => ⟨by omega, fun _ => ⟨by omega, fun _ => fun v2 => ⟨by omega, fun _ => ⟨by omega, fun _ => ?_⟩⟩⟩⟩, fun ho => ⟨by omega, fun _ => ⟨by omega, fun _ => ?_⟩⟩⟩
        · refine ⟨v2, q + 1, 0, m + 1, _, rfl, rfl, rfl, rfl, rfl, fun _ _ => rfl, ⟨_, hI.odd hql hx ho⟩, ?_⟩
          simp only [List.getD_cons_zero]; omega
        · refine ⟨v, q + 1, _, m, A, rfl, rfl, rfl, rfl, rfl, fun _ _ => rfl, ⟨_, hI.even hql hx (by omega)⟩, ?_⟩
          simp only [List.getD_cons_zero]; omega
      · have hx := hexv_let (l[q.toNat]'hql) (by omega) (by omega)
        have hw := wrap3 d (l[q.toNat]'hql).toNat 87 ⟨hd0, hd1⟩ (by omega)
        rw [show ((87 : Nat) : Int) = 87 from rfl] at hw
        rw [hw]
        refine ⟨fun ho => fun b => ⟨by omega, fun _ => ⟨by omega, fun _ => fun v2 => ⟨by omega, fun _ => ⟨by omega, fun _ => ?_⟩⟩⟩⟩, fun ho => ⟨by omega, fun _ => ⟨by omega, fun _ => ?_⟩⟩⟩
        · refine ⟨v2, q + 1, 0, m + 1, _, rfl, rfl, rfl, rfl, rfl, fun _ _ => rfl, ⟨_, hI.odd hql hx ho⟩, ?_⟩
          simp only [List.getD_cons_zero]; omega
        · refine ⟨v, q + 1, _, m, A, rfl, rfl, rfl, rfl, rfl, fun _ _ => rfl, ⟨_, hI.even hql hx (by omega)⟩, ?_⟩
          simp only [List.getD_cons_zero]; omega
      · have hx := hexv_no (l[q.toNat]'hql) (by omega) (by omega)
        have hr := hI.run
        rw [runH_bad l _ hql _ hx] at hr
        refine ⟨[], Ent.sub (List.nil_sublist _), ?_⟩
        rw [hu, ← hr]
        exact ⟨rfl, rfl⟩
    · have hq1 := hI.q1
      have hql : q = l.length := by omega
      have hr := hI.run
      rw [List.drop_eq_nil_of_le (by omega), if_pos (by omega)] at hr
      refine ⟨_, Ent.refl _, ?_⟩
      rw [hu, ← hr]
      refine ⟨v, rfl, ?_⟩
      simp only [List.append_nil]
      rw [show m.toNat = bs.length by omega, tab_bytes bs A hI.hA]
theorem runhex_meets (l : List UInt8) (hl : l.length ≤ 1000000) : Meets Tryz.prog 68 [strV l] [] (UnQ (unhexR l)) := by
  have h := Meets.know (Q := UnQ (unhexR l)) (runhex_v l hl) ?_
  · exact Meets.post h fun _ _ h => ⟨_, Ent.refl _, h.2⟩
  · intro x hs hx w Fs o
    rcases hu : unhexR l with _ | bs
    · rw [hu] at hx
      exact hx
    · rw [hu] at hx
      obtain ⟨v, rfl, rfl⟩ := hx
      obtain ⟨e, he⟩ := owns_bsl o
      rw [he]
      exact ⟨e, rfl, rfl⟩
end Go.RX.Su

namespace Go.RX.Su
open Go Go.RX Go.Proofs Go.RX.Ln
structure Mv where
  k : Int
  d1 : Int
  d2 : Int
  p1 : Int
  p2 : Int
  n : Int
  c : Int
  b : List UInt8
def Mv.z (k : Int) : Mv := ⟨k, 0, 0, 0, 0, 0, 0, []⟩
def mvV (m : Mv) (e : Int) : Value := .agg #[.int .u8 m.k, .int .u8 m.d1, .int .u8 m.d2, .int .u8 m.p1, .int .u8 m.p2, .int .i64 m.n, .int .u64 m.c, bslV e]
def fieldR (f : UInt8) (m : Mv) (s : List UInt8) : Option Mv :=
  if f = 100 then (devR s).map fun p => { m with d1 := p.1, d2 := p.2 }
  else if f = 112 then (devR s).map fun p => { m with p1 := p.1, p2 := p.2 }
  else if f = 110 then (wholeR s).map fun z => { m with n := z }
  else if f = 99 then (numR 18446744073709551615 s).map fun u => { m with c := u }
  else (unhexR s).map fun b => { m with b := b }
def fieldsR : List UInt8 → List (List UInt8) → Mv → Option Mv
  | [], _, m => some m
  | f :: fs, ws, m => match fieldR f m (ws.headD []) with
    | none => none
    | some m' => fieldsR fs ws.tail m'
/-- A move, or what is wrong. -/
abbrev RO := Sum Int Mv
def finR : Option Mv → RO
  | none => .inl 5
  | some m => .inr m
def formsL : List (Int × List UInt8 × List UInt8) :=
  [(1, [100, 105, 97, 108], [100, 110]), (2, [97, 110, 115, 119, 101, 114], [100]), (3, [100, 101, 99, 108, 105, 110, 101], [100]), (4, [104, 97, 110, 103], [100]), (5, [116, 105, 99, 107], [110]),
   (6, [100, 101, 108, 105, 118, 101, 114], [110]), (7, [100, 114, 111, 112], [110]), (8, [100, 111, 117, 98, 108, 101], [110]), (9, [116, 97, 109, 112, 101, 114], [110, 99]), (10, [105, 110, 106, 101, 99, 116], [100, 98]),
   (11, [99, 114, 101, 97, 116, 101], [100]), (12, [97, 100, 100], [100, 112]), (13, [107, 105, 99, 107], [100, 112]), (14, [108, 101, 97, 118, 101], [100]), (15, [102, 114, 97, 109, 101], [100, 98])]
def oneG : List (Int × List UInt8 × List UInt8) → List (List UInt8) → RO
  | [], _ => .inl 2
  | (k, w, fs) :: r, ws => if w = ws.getD 0 [] then (if ws.length ≠ 1 + fs.length then .inl 2 else finR (fieldsR fs ws.tail (Mv.z k))) else oneG r ws
def oneR (ws : List (List UInt8)) : RO := oneG formsL ws
abbrev BSet := List (Int × List UInt8)
def bHP (p : Int × List UInt8) : HP := sliHP true 5 1 (bslV p.1) p.2.length (byC p.2)
def setHP (K : BSet) : HP := HP.star (K.map bHP)
/-- What is owned, with one more. -/
theorem Ent.grow (K : BSet) (p : Int × List UInt8) : Ent [bHP p, setHP K] [setHP (K ++ [p])] := by
  have h1 : Ent [bHP p, setHP K] (K.map bHP ++ [bHP p]) :=
    Ent.trans (Ent.perm (List.Perm.swap _ _ _)) (Ent.frame (Ent.unstar (K.map bHP)) [bHP p])
  have h2 : Ent ((K ++ [p]).map bHP) [setHP (K ++ [p])] := Ent.star fun h hm => by
    rw [List.mem_map] at hm
    obtain ⟨q, _, rfl⟩ := hm
    rfl
  rw [List.map_append] at h2
  exact h1.trans h2
def Grow (K K' : BSet) (e : Int) (b : List UInt8) : Prop := (K' = K ∧ e = 0 ∧ b = []) ∨ K' = K ++ [(e, b)]
def OneQ (K : BSet) (r : RO) (W : HP) (x : Value) (hs : List HP) : Prop :=
  match r with
  | .inr m => ∃ e K', x = .tuple #[mvV m e, .int .i64 0] ∧ hs = [setHP K', W] ∧ Grow K K' e m.b
  | .inl z => x = .tuple #[mvV (Mv.z 0) 0, .int .i64 z] ∧ hs = [setHP K, W]
/-- Reading bytes beside what is owned already. -/
def UnS (K : BSet) (o : Option (List UInt8)) (x : Value) (hs : List HP) : Prop :=
  match o with
  | some bs => ∃ e : Int, x = .tuple #[bslV e, .bool true] ∧ hs = [setHP (K ++ [(e, bs)])]
  | none => x = .tuple #[bslV 0, .bool false] ∧ hs = [setHP K]
theorem runhex_set (K : BSet) (l : List UInt8) (hl : l.length ≤ 1000000) : Meets Tryz.prog 68 [strV l] [setHP K] (UnS K (unhexR l)) := by
  refine Meets.post (Meets.frame (runhex_meets l hl) [setHP K]) ?_
  rintro x hs ⟨hs0, rfl, h⟩
  rcases hu : unhexR l with _ | bs
  · rw [hu] at h
    obtain ⟨rfl, rfl⟩ := h
    exact ⟨_, Ent.refl _, rfl, rfl⟩
  · rw [hu] at h
    obtain ⟨e, rfl, rfl⟩ := h
    exact ⟨_, Ent.grow K (e, bs), e, rfl, rfl⟩
end Go.RX.Su

namespace Go.RX.St
open Go Go.RX Go.Proofs Go.RX.Ln Go.RX.Su Go.RowKit
def hexes : List UInt8 := [48, 49, 50, 51, 52, 53, 54, 55, 56, 57, 97, 98, 99, 100, 101, 102]
def hexZ (c : UInt8) : Int := match hexv c with | some x => x | none => -1
theorem hexZ_all : ∀ c : Fin 256, Lib.indexByte hexes (UInt8.ofNat c.val) = hexZ (UInt8.ofNat c.val) := by decide +kernel
theorem hexZ_at (c : UInt8) : Lib.indexByte hexes c = hexZ c := by
  have := hexZ_all ⟨c.toNat, c.toNat_lt⟩
  simpa using this
theorem nib : ∀ p q : Fin 16, IntKind.wrap .u8 (iop .bor .i64 (iop .shl .i64 (p.val : Int) 4) (q.val : Int)) = 16 * (p.val : Int) + q.val := by decide +kernel
theorem nib_at (p q : Nat) (hp : p < 16) (hq : q < 16) : IntKind.wrap .u8 (iop .bor .i64 (iop .shl .i64 (p : Int) 4) (q : Int)) = 16 * (p : Int) + q := nib ⟨p, hp⟩ ⟨q, hq⟩
theorem has_meets (c : UInt8) : Meets Tryz.prog 150 [strV hexes, strV [c]] [] fun x hs => x = .bool (hexv c).isSome ∧ hs = [] := by
  refine Au.meets_pure fun w => (Tryz.strings_Contains_one ⟨hexes.toArray⟩ c w).mono ?_
  rintro e w' ⟨rfl, rfl⟩
  refine ⟨?_, rfl⟩
  congr 2
  show decide (0 ≤ Lib.indexByte hexes c) = _
  rw [hexZ_at, hexZ]
  rcases hexv c with _ | x <;> simp
theorem at_meets (l : List UInt8) (i : Nat) (hi : i < l.length) : Meets Tryz.prog 58 [strV hexes, .int .u8 (sbyF (rowS l) i)] [] fun x hs => x = .int .i64 (hexZ (l[i]'hi)) ∧ hs = [] := by
  have := indexByte_meets hexes (sbyF (rowS l) i)
  rw [sby_row l i hi] at this ⊢
  rw [Int.toNat_natCast, show (l[i]'hi).toNat.toUInt8 = l[i]'hi by simp, hexZ_at] at this
  exact this
theorem one_row (l : List UInt8) (i : Nat) (hi : i < l.length) (p q : Int) (hp : p = i) (hq : q = i + 1) : strD (updF (shiftF (rowS l) p.toNat) 0 (q - p)) = [l[i]'hi] := by
  subst hp hq
  have := mid_rowS l i (i + 1) (by omega) (by omega)
  rw [show i + 1 - i = 1 by omega, List.drop_eq_getElem_cons hi] at this
  rw [Int.toNat_natCast]
  exact this
theorem unhexR_none (l : List UInt8) (h : l ≠ [45]) (hr : runH l none = none) : unhexR l = none := by
  unfold unhexR
  rw [if_neg h]
  split
  · rfl
  · exact hr
theorem pbytes_v (l : List UInt8) (hl : l.length ≤ 1000000) : Meets Tryz.prog 118 [strV l] [] (UnV (unhexR l)) := by
  have e0 : strV l = (SV.strE (.avar 0)).val { av := [rowS l] } := strV_row l
  rw [e0]
  have h := Meets.of_runE (C := cxB) (cnt := { a := 1 }) (ρ := { av := [rowS l] }) okT okFT okM Tryz.func118 (by constructor <;> rfl)
    (Post := fun x hs => ∃ hs', Ent (hs.take 1) hs' ∧ UnV (unhexR l) x hs') (args := [.strE (.avar 0)]) (hp := []) run_pbytes
    (vc_pbytes Tryz.prog (fun x hs => ∃ hs', Ent hs hs' ∧ UnV (unhexR l) x hs') (rowS l) (fun _ => LC.none)) ?_
  · refine Meets.post h ?_
    rintro x hs ⟨hs', h1, h2⟩
    exact ⟨hs', Ent.trans (Ent.sub (List.take_sublist 1 hs)) h1, h2⟩
  unfold st_pbytes
  rw [rowS0, strD_rowS, show strD (rowLF [1, 45]) = [45] from by decide, show strD (rowLF [0]) = [] from by decide]
  refine ⟨fun h => ?_, fun h => ?_⟩
  · refine ⟨_, Ent.nilSli 5 1, ?_⟩
    have : unhexR l = some [] := by unfold unhexR; rw [if_pos h]
    rw [this]
    exact ⟨⟨.slice none 0 0, rfl⟩, rfl, rfl⟩
  · refine ⟨fun e => (e.i.getD 0 0) % 2 = 0 ∧ (e.i.getD 0 0 = 0 → (e.v.getD 0 V1.nil).v = .slice none 0 0) ∧ ∃ bs, HexI l (e.i.getD 0 0) 0 (e.i.getD 1 0) (e.a.getD 0 fun _ => 0) bs, fun e => ((l.length : Int) - e.i.getD 0 0).toNat,
      ⟨_, 0, 0, fun _ => 0, rfl, rfl, rfl, rfl, fun _ _ => rfl, by simp, by intro _; rfl, [], ⟨by simp, by simp, by simp, by simp, by simp, by simp, by simp, by simp, by simp⟩⟩, ?_⟩
    rintro v q m A ⟨hev, hnil, bs, hI⟩
    simp only [List.getD_cons_zero, List.getD_cons_succ] at hev hnil hI
    have h0 := hI.q0
    have hmq := hI.mq
    have hm := hI.hm
    have hq1 := hI.q1
    refine ⟨by omega, fun _ => ⟨fun hq => ?_, fun hq => ?_⟩⟩
    · have bad : unhexR l = none → ∃ hs', Ent [sliHP true 5 1 v.v m.toNat (tabL m.toNat [colI .u8 1 A])] hs' ∧ UnV (unhexR l) (.tuple #[.slice none 0 0, .bool false]) hs' := by
        intro hu
        refine ⟨[], Ent.sub (List.nil_sublist _), ?_⟩
        rw [hu]
        exact ⟨rfl, rfl⟩
      have hql : q.toNat < l.length := by omega
      refine ⟨by omega, fun _ => ⟨by omega, fun _ => ⟨by omega, fun _ => ⟨by omega, fun _ => ⟨by omega, fun _ => ⟨by omega, fun _ => ⟨by omega, fun _ => ⟨fun hne => ?_, fun hne => ?_⟩⟩⟩⟩⟩⟩⟩⟩
      · rw [one_row l q.toNat hql q (q + 1) (by omega) (by omega)]
        refine ⟨_, has_meets (l[q.toNat]'hql), ?_⟩
        rintro x hs ⟨rfl, rfl⟩
        refine ⟨_, rfl, rfl, by omega, fun _ => ⟨by omega, fun _ => ⟨by omega, fun _ => ⟨by omega, fun _ => ⟨by omega, fun _ => ⟨by omega, fun _ => ⟨by omega, fun _ => ⟨fun hx => ?_, fun hx => ?_⟩⟩⟩⟩⟩⟩⟩⟩
        · obtain ⟨x, hx⟩ := Option.isSome_iff_exists.1 hx
          have hql2 : q.toNat + 1 < l.length := by omega
          rw [one_row l (q.toNat + 1) hql2 (q + 1) (q + 2) (by omega) (by omega)]
          refine ⟨_, has_meets (l[q.toNat + 1]'hql2), ?_⟩
          rintro z hs ⟨rfl, rfl⟩
          have hI1 := hI.even hql hx hev
          have hql2' : (q + 1).toNat < l.length := by omega
          have e1 : (q + 1).toNat = q.toNat + 1 := by omega
          refine ⟨_, rfl, rfl, fun hy => ?_, fun hy => ?_⟩
          · apply bad
            have hy2 : hexv (l[q.toNat + 1]'hql2) = none := by simpa using hy
            have hu := hI1.run
            rw [runH_bad l (q + 1).toNat hql2' _ (by simpa only [e1] using hy2)] at hu
            exact unhexR_none l h hu.symm
          · obtain ⟨y, hy⟩ := Option.isSome_iff_exists.1 (Classical.not_not.1 hy)
            have hI2 := hI1.odd hql2' (x := y) (by simpa only [e1] using hy) (by omega)
            rw [show q + 1 + 1 = q + 2 by omega, show 16 * (16 * 0 + (x : Int)) + (y : Int) = 16 * x + y by omega] at hI2
            refine ⟨h0, fun _ => ⟨by omega, fun _ => ⟨by omega, fun _ => ⟨_, at_meets l q.toNat hql, ?_⟩⟩⟩⟩
            rintro z hs ⟨rfl, rfl⟩
            refine ⟨_, rfl, rfl, _, at_meets l (q + 1).toNat hql2', ?_⟩
            rintro z hs ⟨rfl, rfl⟩
            have z1 : hexZ (l[q.toNat]'hql) = x := by unfold hexZ; rw [hx]
            have z2 : hexZ (l[(q + 1).toNat]'hql2') = y := by unfold hexZ; simp only [e1, hy]
            refine ⟨_, rfl, rfl, fun _ => ⟨by omega, fun _ => ⟨by omega, fun _ => fun v2 => ⟨by omega, fun _ => ⟨by omega, fun _ => ?_⟩⟩⟩⟩⟩
            rw [z1, z2, nib_at x y (hexv_lt _ hx) (hexv_lt _ hy)]
            refine ⟨v2, q + 2, m + 1, _, rfl, rfl, rfl, rfl, fun _ _ => rfl, ⟨?_, ?_, _, hI2⟩, ?_⟩
            all_goals simp only [List.getD_cons_zero, List.getD_cons_succ]
            · omega
            · intro hz; omega
            · omega
        · apply bad
          have hu := hI.run
          rw [runH_bad l q.toNat hql _ (by simpa using hx)] at hu
          exact unhexR_none l h hu.symm
      · apply bad
        unfold unhexR
        rw [if_neg h, if_pos (by omega)]
    · have hql : q = l.length := by omega
      by_cases hl0 : l = []
      · have hq0 : q = 0 := by rw [hql, hl0]; rfl
        refine ⟨[], Ent.sub (List.nil_sublist _), ?_⟩
        have hu : unhexR l = none := by unfold unhexR; rw [if_neg h, if_pos (.inl (by rw [hl0]; rfl))]
        rw [hu, hnil hq0, hl0]
        exact ⟨rfl, rfl⟩
      · have hlen : l.length ≠ 0 := fun e => hl0 (List.eq_nil_of_length_eq_zero e)
        have hr := hI.run
        rw [List.drop_eq_nil_of_le (by omega), if_pos hev] at hr
        refine ⟨_, Ent.refl _, ?_⟩
        rw [unhexR_some l h (by omega), ← hr]
        refine ⟨v, ?_, ?_⟩
        · have : (l == []) = false := by simpa using hl0
          rw [this]
          rfl
        · simp only [List.append_nil]
          rw [show m.toNat = bs.length by omega, tab_bytes bs A hI.hA]
theorem pbytes_meets (l : List UInt8) (hl : l.length ≤ 1000000) : Meets Tryz.prog 118 [strV l] [] (UnQ (unhexR l)) := by
  have h := Meets.know (Q := UnQ (unhexR l)) (pbytes_v l hl) ?_
  · exact Meets.post h fun _ _ h => ⟨_, Ent.refl _, h.2⟩
  · intro x hs hx w Fs o
    rcases hu : unhexR l with _ | bs
    · rw [hu] at hx
      exact hx
    · rw [hu] at hx
      obtain ⟨v, rfl, rfl⟩ := hx
      obtain ⟨e, he⟩ := owns_bsl o
      rw [he]
      exact ⟨e, rfl, rfl⟩
theorem pbytes_set (K : BSet) (l : List UInt8) (hl : l.length ≤ 1000000) : Meets Tryz.prog 118 [strV l] [setHP K] (UnS K (unhexR l)) := by
  refine Meets.post (Meets.frame (pbytes_meets l hl) [setHP K]) ?_
  rintro x hs ⟨hs0, rfl, h⟩
  rcases hu : unhexR l with _ | bs
  · rw [hu] at h
    obtain ⟨rfl, rfl⟩ := h
    exact ⟨_, Ent.refl _, rfl, rfl⟩
  · rw [hu] at h
    obtain ⟨e, rfl, rfl⟩ := h
    exact ⟨_, Ent.grow K (e, bs), e, rfl, rfl⟩
end Go.RX.St
