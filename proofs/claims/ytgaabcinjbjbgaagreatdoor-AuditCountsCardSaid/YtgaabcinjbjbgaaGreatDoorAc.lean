/- AuditCounts: the law. -/
import Derived.Test.YtgaabcinjbjbgaaGreatDoorAcF
namespace Go.RX.Ac
open Go.RX Go.Proofs

theorem pureOk : PureOk Tryz.prog cx := by
  intro f args hp r ρ h hvc
  unfold pureRes at h
  simp only [cx] at h
  split at h
  · rename_i g hg
    unfold pure at hg
    split at hg
    · cases hg
      unfold pKnown at h
      split at h
      · cases h
        exact Au.known_meets
      · cases h
    · cases hg
  · cases h

def cls (v : Int) : Nat := if v < 8 then v.toNat else 0
/-- How many of the first are of each kind. -/
def tally (F : Nat → Int) : Nat → Nat → Int
  | 0, _ => 0
  | m + 1, k => tally F m k + (if k = cls (F m) then 1 else 0)
theorem tally_bd (F : Nat → Int) : ∀ (m k : Nat), 0 ≤ tally F m k ∧ tally F m k ≤ m
  | 0, _ => ⟨Int.le_refl _, Int.le_refl _⟩
  | m + 1, k => by
    have := tally_bd F m k
    simp only [tally]
    split <;> omega
def Inv (F : Nat → Int) (n : Int) (e : Ext) : Prop := 0 ≤ e.i.getD 0 0 ∧ e.i.getD 0 0 ≤ n ∧ ∀ j, j < 8 → (e.a.getD 0 fun _ => 0) j = tally F (e.i.getD 0 0).toNat j
theorem step (F A : Nat → Int) (x : Int) (k : Nat) (h0 : 0 ≤ x) (hA : ∀ j, j < 8 → A j = tally F x.toNat j) (hk : cls (F x.toNat) = k) : ∀ j, j < 8 → updF A k (A k + 1) j = tally F (x + 1).toNat j := by
  intro j hj
  have e : (x + 1).toNat = x.toNat + 1 := by omega
  rw [e]
  simp only [tally, updF, hk]
  by_cases hjk : j = k
  · subst hjk
    simp only [if_true, hA j hj]
  · rw [if_neg hjk, if_neg hjk, hA j hj]
    omega
theorem step0 (F A : Nat → Int) (x : Int) (h0 : 0 ≤ x) (hA : ∀ j, j < 8 → A j = tally F x.toNat j) (hk : cls (F x.toNat) = 0) :
    ∀ j, j < 8 → (splF (updF (fun _ => 0) 0 (A 0 + 1)) 1 7 (shiftF A 1)) j = tally F (x + 1).toNat j := by
  intro j hj
  rw [← step F A x 0 h0 hA hk j hj]
  simp only [splF, updF, shiftF]
  by_cases h : j = 0
  · subst h; rfl
  · rw [if_pos (by omega), if_neg h]
    congr 1
    omega

theorem law_meets (v : V1) (n : Int) (A0 A1 A2 A3 A4 : Nat → Int) (h0 : 0 ≤ n) (hb : ∀ j : Int, 0 ≤ j → j < n → 0 ≤ A0 j.toNat ∧ A0 j.toNat ≤ 255) :
    Meets Tryz.prog 6 [v.v] [sliHP false 59 20 v.v n.toNat (tabL n.toNat [colI .u8 1 A0, colI .i64 1 A1, colI .u8 1 A2, colI .u8 1 A3, colI .u8 16 A4])] (fun r _ => r = .bool true) := by
  refine Meets.of_run (C := cx) (cnt := { i := 1, a := 5, v := 1 }) (ρ := { iv := [n], av := [A0, A1, A2, A3, A4], vv := [v] }) okT okFT okM Tryz.func6 (by constructor <;> rfl) (args := [.vv 0])
    (hp := [.sli false 0 59 20 (.var 0) fCols]) ?_ pureOk
  rw [show runF cx 6 [.vv 0] [.sli false 0 59 20 (.var 0) fCols] { i := 1, a := 5, v := 1 } Tryz.f6 = fm_counts from run_counts, vc_counts]
  unfold st_counts
  refine ⟨h0, fun _ => ⟨fun _ => rfl, fun hn => ?_⟩⟩
  intro b0
  refine ⟨Inv A0 n, fun e => (n - e.i.getD 0 0).toNat, ⟨0, fun _ => 0, rfl, fun _ _ => rfl, ⟨Int.le_refl _, h0, fun _ _ => rfl⟩⟩, ?_⟩
  rintro x A ⟨hx0, hx1, hA⟩
  simp only [List.getD_cons_zero] at hx0 hx1 hA
  refine ⟨fun hlt => ⟨hx0, fun _ => ?_⟩, fun hge => ?_⟩
  · intro b1
    have hbx := hb x hx0 hlt
    have bd := tally_bd A0 x.toNat
    refine ⟨fun h8 => ?_, fun h8 => ?_⟩
    · have bdk := bd (A0 x.toNat).toNat
      have hAk := hA (A0 x.toNat).toNat (by omega)
      refine ⟨hbx.1, fun _ => ⟨by omega, fun _ => ⟨by omega, fun _ => ⟨by omega, fun _ => ⟨by omega, fun _ => ⟨x + 1, _, rfl, fun _ _ => rfl, ⟨?_, ?_, ?_⟩, ?_⟩⟩⟩⟩⟩⟩
      · simp only [List.getD_cons_zero]; omega
      · simp only [List.getD_cons_zero]; omega
      · simp only [List.getD_cons_zero]
        exact step A0 A x _ hx0 hA (by simp [cls, h8])
      · simp only [List.getD_cons_zero]; omega
    · have bdk := bd 0
      have hAk := hA 0 (by omega)
      refine ⟨by omega, fun _ => ⟨by omega, fun _ => ⟨by omega, fun _ => ⟨by omega, fun _ => ⟨x + 1, _, rfl, fun _ _ => rfl, ⟨?_, ?_, ?_⟩, ?_⟩⟩⟩⟩⟩
      · simp only [List.getD_cons_zero]; omega
      · simp only [List.getD_cons_zero]; omega
      · simp only [List.getD_cons_zero]
        exact step0 A0 A x hx0 hA (by simp [cls, h8])
      · simp only [List.getD_cons_zero]; omega
  · intro b1 b2 b3 D4 l5 r4
    refine ⟨h0, fun _ => ⟨Inv A0 n, fun e => (n - e.i.getD 0 0).toNat, ⟨0, fun _ => 0, rfl, fun _ _ => rfl, ⟨Int.le_refl _, h0, fun _ _ => rfl⟩⟩, ?_⟩⟩
    rintro y B ⟨hy0, hy1, hB⟩
    simp only [List.getD_cons_zero] at hy0 hy1 hB
    refine ⟨fun hlt => ⟨hy0, fun _ => ?_⟩, fun hge2 => ?_⟩
    · intro b6 b7
      have hbx := hb y hy0 hlt
      have bd := tally_bd A0 y.toNat
      refine ⟨by omega, fun _ => ⟨by omega, fun _ => ⟨fun h8 => ?_, fun h8 => ?_⟩⟩⟩
      · have bdk := bd 0
        have hAk := hB 0 (by omega)
        refine ⟨by omega, fun _ => ⟨by omega, fun _ => ⟨by omega, fun _ => ⟨by omega, fun _ => ⟨y + 1, _, rfl, fun _ _ => rfl, ⟨?_, ?_, ?_⟩, ?_⟩⟩⟩⟩⟩
        · simp only [List.getD_cons_zero]; omega
        · simp only [List.getD_cons_zero]; omega
        · simp only [List.getD_cons_zero]
          exact step0 A0 B y hy0 hB (by unfold cls; rw [if_neg (by omega)])
        · simp only [List.getD_cons_zero]; omega
      · have bdk := bd (A0 y.toNat).toNat
        have hAk := hB (A0 y.toNat).toNat (by omega)
        refine ⟨hbx.1, fun _ => ⟨by omega, fun _ => ⟨by omega, fun _ => ⟨by omega, fun _ => ⟨by omega, fun _ => ⟨by omega, fun _ => ⟨y + 1, _, rfl, fun _ _ => rfl, ⟨?_, ?_, ?_⟩, ?_⟩⟩⟩⟩⟩⟩⟩
        · simp only [List.getD_cons_zero]; omega
        · simp only [List.getD_cons_zero]; omega
        · simp only [List.getD_cons_zero]
          exact step A0 B y _ hy0 hB (by unfold cls; rw [if_pos (by omega)])
        · simp only [List.getD_cons_zero]; omega
    · have e1 : x = n := by omega
      have e2 : y = n := by omega
      subst e1
      congr 1
      rw [List.all_eq_true]
      intro j hj
      have hj := List.mem_range.1 hj
      rw [hA j hj, hB j hj, e2]
      simp
end Go.RX.Ac
