/- RingMemory: the law. -/
import Derived.Test.YtphemenngjkfbaaRm
namespace Go.RX.Rm
open Go.RX Go.Proofs
theorem law_meets (v : V1) (most ask N : Int) (A0 : Nat → Int) (h0 : 0 ≤ N) (h1 : N ≤ 9223372036854775807) (hm0 : -9223372036854775808 ≤ most) (hm1 : most ≤ 9223372036854775807) :
    Meets Try.prog 5 [.int .i64 most, v.v, .int .u16 ask] [sliHP false 53 1 v.v N.toNat (tab N A0)] (fun r _ => r = .bool true) := by
  refine Meets.of_run (C := cx) (cnt := { i := 3, a := 1, v := 1 }) (ρ := { iv := [most, ask, N], av := [A0], vv := [v] }) okT okFT okM Try.func5 (by constructor <;> rfl) (args := [.int .i64 (.var 0), .vv 0, .int .u16 (.var 1)])
    (hp := [.sli false 0 53 1 (.var 2) (colsU (.avar 0))]) ?_
  rw [show runF cx 5 [.int .i64 (.var 0), .vv 0, .int .u16 (.var 1)] [.sli false 0 53 1 (.var 2) (colsU (.avar 0))] { i := 3, a := 1, v := 1 } Try.f5 = fm_law from run_law, vc_law]
  unfold st_law
  have hk : iop .imax .i64 most 0 = max most 0 := by simp only [iop]; omega
  rw [hk]
  refine ⟨_, works_meets, ?_⟩
  rintro r hs ⟨rfl, rfl⟩
  refine ⟨rfl, rfl, h0, fun _ => ⟨fun _ => rfl, fun hlen => fun b0 v3 => ?_⟩⟩
  refine ⟨fun e => 0 ≤ e.i.getD 0 0 ∧ e.i.getD 0 0 ≤ N ∧ 0 ≤ e.i.getD 1 0 ∧ e.i.getD 1 0 ≤ e.i.getD 0 0, fun e => (N - e.i.getD 0 0).toNat, ⟨_, v3, 0, 0, fun _ => 0, rfl, rfl, rfl, rfl, rfl, fun _ _ => rfl, rfl, rfl, fun _ _ => rfl, ?_⟩, ?_⟩
  · simp only [List.getD_cons_zero, List.getD_cons_succ]; omega
  · rintro v4 v5 i n A1 ⟨hi0, hi1, hn0, hn1⟩
    simp only [List.getD_cons_zero, List.getD_cons_succ] at hi0 hi1 hn0 hn1
    refine ⟨fun hlt => ⟨hi0, fun _ => ?_⟩, fun _ => rfl⟩
    have hnn := noteN_le A1 n (max most 0) (A0 i.toNat) hn0 (by omega)
    refine ⟨_, note_meets b0 v4 (A0 i.toNat) (max most 0) n A1 hn0 (by omega) (by omega) (by omega), ?_⟩
    rintro r hs ⟨v', rfl, rfl⟩
    refine ⟨v', _, _, rfl, rfl, ?_⟩
    refine ⟨_, rnote_meets v5 (A0 i.toNat) most n A1 hn0 (by omega) hm0, ?_⟩
    rintro r hs ⟨v7, rfl, rfl⟩
    refine ⟨v7, _, _, rfl, rfl, ?_⟩
    intro b1
    generalize hk' : max most 0 = k at *
    generalize hn' : noteN A1 n k (A0 i.toNat) = n' at *
    generalize noteA A1 n k (A0 i.toNat) = A'
    obtain ⟨hn6, hn7⟩ := hnn

    refine ⟨hn6, fun _ => ⟨fun e => 0 ≤ e.i.getD 0 0 ∧ e.i.getD 0 0 ≤ n' ∧ e.bo.getD 0 false = memb A' (e.i.getD 0 0) (A0 (Int.toNat i)), fun e => (n' - e.i.getD 0 0).toNat, ⟨0, false, rfl, rfl, ?_⟩, ?_⟩⟩
    · simp only [List.getD_cons_zero]
      exact ⟨Int.le_refl _, hn6, (memb_zero _ _).symm⟩
    rintro ja qa ⟨hj0a, hj1a, hj2a⟩
    simp only [List.getD_cons_zero] at hj0a hj1a hj2a
    refine ⟨fun hlt => ⟨hj0a, fun _ => ⟨by omega, fun _ => ⟨by omega, fun _ => ⟨_, _, rfl, rfl, ?_, ?_⟩⟩⟩⟩, fun hge => ⟨_, has_meets b0 v' _ k n' A' hn6 (by omega), ?_⟩⟩
    · simp only [List.getD_cons_zero]
      exact ⟨by omega, by omega, by rw [memb_succ _ _ _ hj0a, hj2a]⟩
    · simp only [List.getD_cons_zero]; omega
    rintro r hs ⟨rfl, rfl⟩
    have hjna : n' = ja := by omega
    refine ⟨_, rfl, rfl, fun hne => ?_, fun _ => ?_⟩
    · exfalso
      apply hne
      rw [hj2a, ← hjna]
      exact ⟨id, id⟩

    refine ⟨hn6, fun _ => ⟨fun e => 0 ≤ e.i.getD 0 0 ∧ e.i.getD 0 0 ≤ n' ∧ e.bo.getD 0 false = memb A' (e.i.getD 0 0) ask, fun e => (n' - e.i.getD 0 0).toNat, ⟨0, false, rfl, rfl, ?_⟩, ?_⟩⟩
    · simp only [List.getD_cons_zero]
      exact ⟨Int.le_refl _, hn6, (memb_zero _ _).symm⟩
    rintro jb qb ⟨hj0b, hj1b, hj2b⟩
    simp only [List.getD_cons_zero] at hj0b hj1b hj2b
    refine ⟨fun hlt => ⟨hj0b, fun _ => ⟨by omega, fun _ => ⟨by omega, fun _ => ⟨_, _, rfl, rfl, ?_, ?_⟩⟩⟩⟩, fun hge => ⟨_, has_meets b0 v' _ k n' A' hn6 (by omega), ?_⟩⟩
    · simp only [List.getD_cons_zero]
      exact ⟨by omega, by omega, by rw [memb_succ _ _ _ hj0b, hj2b]⟩
    · simp only [List.getD_cons_zero]; omega
    rintro r hs ⟨rfl, rfl⟩
    have hjnb : n' = jb := by omega
    refine ⟨_, rfl, rfl, fun hne => ?_, fun _ => ?_⟩
    · exfalso
      apply hne
      rw [hj2b, ← hjnb]
      exact ⟨id, id⟩

    refine ⟨hn6, fun _ => ⟨fun e => 0 ≤ e.i.getD 0 0 ∧ e.i.getD 0 0 ≤ n' ∧ e.bo.getD 0 false = memb A' (e.i.getD 0 0) (IntKind.wrap .u16 ((A0 (Int.toNat i)) + 1)), fun e => (n' - e.i.getD 0 0).toNat, ⟨0, false, rfl, rfl, ?_⟩, ?_⟩⟩
    · simp only [List.getD_cons_zero]
      exact ⟨Int.le_refl _, hn6, (memb_zero _ _).symm⟩
    rintro jc qc ⟨hj0c, hj1c, hj2c⟩
    simp only [List.getD_cons_zero] at hj0c hj1c hj2c
    refine ⟨fun hlt => ⟨hj0c, fun _ => ⟨by omega, fun _ => ⟨by omega, fun _ => ⟨_, _, rfl, rfl, ?_, ?_⟩⟩⟩⟩, fun hge => ⟨_, has_meets b0 v' _ k n' A' hn6 (by omega), ?_⟩⟩
    · simp only [List.getD_cons_zero]
      exact ⟨by omega, by omega, by rw [memb_succ _ _ _ hj0c, hj2c]⟩
    · simp only [List.getD_cons_zero]; omega
    rintro r hs ⟨rfl, rfl⟩
    have hjnc : n' = jc := by omega
    refine ⟨_, rfl, rfl, fun hne => ?_, fun _ => ?_⟩
    · exfalso
      apply hne
      rw [hj2c, ← hjnc]
      exact ⟨id, id⟩

    refine ⟨by omega, fun _ => ⟨by omega, fun _ => ⟨v', v7, i + 1, n', A', rfl, rfl, rfl, rfl, rfl, fun _ _ => rfl, rfl, rfl, fun _ _ => rfl, ?_, ?_⟩⟩⟩
    · simp only [List.getD_cons_zero, List.getD_cons_succ]; omega
    · simp only [List.getD_cons_zero]; omega
end Go.RX.Rm
