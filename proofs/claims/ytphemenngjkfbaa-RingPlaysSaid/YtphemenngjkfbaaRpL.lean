/- RingPlays: the law. -/
import Derived.Test.YtphemenngjkfbaaRp
namespace Go.RX.Rp
open Go.RX Go.Proofs Go.RX.Rg

abbrev doTab (N : Int) (A0 A1 A2 A3 A4 : Nat → Int) : List Value := tabL N.toNat [colI .u8 1 A0, colI .u8 1 A1, colI .u8 1 A2, colI .u8 1 A3, colI .i64 1 A4]

theorem works_ok : Meets Try.prog 13 [] [] (fun v hs => v = .bool true ∧ hs = []) := Rg.works_meets

theorem law_bad (v : V1) (acc n N : Int) (A0 A1 A2 A3 A4 : Nat → Int) (hn : 8 ≤ acc ∨ n < 1 ∨ 4 < n) :
    Meets Try.prog 4 [.int .u8 acc, .int .i64 n, v.v] [sliHP false 32 5 v.v N.toNat (doTab N A0 A1 A2 A3 A4)] (fun r _ => r = .bool true) := by
  refine Meets.of_run (C := Rp.cxI) (cnt := { i := 3, a := 5, v := 1 }) (ρ := { iv := [acc, n, N], av := [A0, A1, A2, A3, A4], vv := [v] }) okT okFT okM Try.func4 (by constructor <;> rfl) (args := [.int .u8 (.var 0), .int .i64 (.var 1), .vv 0])
    (hp := [.sli false 0 32 5 (.var 2) doCols]) ?_
  rw [show runF Rp.cxI 4 [.int .u8 (.var 0), .int .i64 (.var 1), .vv 0] [.sli false 0 32 5 (.var 2) doCols] { i := 3, a := 5, v := 1 } Try.f4 = fm_playsI from run_playsI, vc_playsI]
  unfold st_playsI
  intro b0 b1
  refine ⟨_, works_ok, ?_⟩
  rintro r hs ⟨rfl, rfl⟩
  refine ⟨rfl, rfl, _, new_bad acc n hn, ?_⟩
  rintro r hs ⟨rfl, rfl⟩
  refine ⟨rfl, rfl, _, rnew_bad acc n hn, ?_⟩
  rintro r hs ⟨rfl, rfl⟩
  exact ⟨V1.nil, rfl, rfl, fun _ => rfl⟩

theorem imin_eq {x y z : Int} (h : (x ≤ y ∧ z = x) ∨ (y ≤ x ∧ z = y)) : iop .imin .i64 x y = z := by
  unfold iop
  dsimp only
  split <;> omega
theorem imax_eq {x y z : Int} (h : (y ≤ x ∧ z = x) ∨ (x ≤ y ∧ z = y)) : iop .imax .i64 x y = z := by
  unfold iop
  dsimp only
  split <;> omega

theorem law_good (v : V1) (acc n N : Int) (A0 A1 A2 A3 A4 : Nat → Int) (h0 : 0 ≤ N) (hacc : acc < 8) (hn1 : 1 ≤ n) (hn4 : n ≤ 4) (h2 : ∀ j : Int, 0 ≤ j → j < N → 0 ≤ A2 j.toNat ∧ A2 j.toNat ≤ 255) :
    Meets Try.prog 4 [.int .u8 acc, .int .i64 n, v.v] [sliHP false 32 5 v.v N.toNat (doTab N A0 A1 A2 A3 A4)] (fun r _ => r = .bool true) := by
  refine Meets.of_run (C := Rp.cx) (cnt := { i := 3, a := 5, v := 1 }) (ρ := { iv := [acc, n, N], av := [A0, A1, A2, A3, A4], vv := [v] }) okT okFT okM Try.func4 (by constructor <;> rfl) (args := [.int .u8 (.var 0), .int .i64 (.var 1), .vv 0])
    (hp := [.sli false 0 32 5 (.var 2) doCols]) ?_
  rw [show runF Rp.cx 4 [.int .u8 (.var 0), .int .i64 (.var 1), .vv 0] [.sli false 0 32 5 (.var 2) doCols] { i := 3, a := 5, v := 1 } Try.f4 = fm_plays from run_plays, vc_plays]
  unfold st_plays
  intro b0 b1
  refine ⟨_, works_ok, ?_⟩
  rintro r hs ⟨rfl, rfl⟩
  refine ⟨rfl, rfl, _, new_meets acc n hacc hn1 hn4, ?_⟩
  rintro r hs ⟨b2, v1, M0, rfl, rfl, hM0⟩
  refine ⟨b2, v1, M0, rfl, rfl, _, rnew_meets acc n hacc hn1 hn4, ?_⟩
  rintro r hs ⟨v2, M1, rfl, rfl, hM1⟩
  refine ⟨v2, M1, rfl, rfl, fun b3 => ⟨h0, fun _ => ⟨fun _ => rfl, fun hlen => fun b4 => ?_⟩⟩⟩
  refine ⟨fun e => 0 ≤ e.i.getD 1 0 ∧ e.i.getD 1 0 ≤ N ∧ e.i.getD 0 0 < n, fun e => (N - e.i.getD 1 0).toNat,
    ⟨b4, -1, 0, M0, rfl, rfl, fun _ _ => rfl, fun j hj => by rw [hM0 j hj, hM1 j hj], rfl, rfl, rfl, ?_⟩, ?_⟩
  · simp only [List.getD_cons_zero, List.getD_cons_succ]
    omega
  rintro b5 ans k M ⟨k0, k1, hans⟩
  simp only [List.getD_cons_zero, List.getD_cons_succ] at k0 k1 hans
  refine ⟨fun hlt => ⟨k0, fun _ => fun b6 => ?_⟩, fun hge => ?_⟩
  · obtain ⟨hA0, hA1⟩ := h2 k k0 hlt
    refine ⟨fun e => e.bo = [true] ∧ e.i.getD 0 0 < n, ⟨fun hk0 => ?_, fun hk0 => ⟨fun hk1 => ?_, fun hk1 => ⟨fun hk3 => ?_, fun hk3 => ?_⟩⟩⟩, ?_⟩
    · -- a mark
      refine ⟨_, mark_meets b2 v1 acc ans n _ _ _ M hA0 hA1 (by omega), ?_⟩
      rintro r hs ⟨c, M', rfl, rfl, rfl, rfl⟩
      refine ⟨ans, _, _, rfl, rfl, _, rmark_meets b3 v2 acc ans n _ _ _ M hA0 hA1 (by omega), ?_⟩
      rintro r hs ⟨c, M'', rfl, rfl, rfl, rfl⟩
      refine ⟨ans, _, _, rfl, rfl, ?_⟩
      exact ⟨b5, ans, _, _, rfl, rfl, fun _ _ => rfl, fun _ _ => rfl, rfl, rfl, rfl, by simp, hans⟩
    · -- an answer
      refine ⟨_, answer_meets b2 v1 acc ans n _ _ M hA0 hA1 (by omega), ?_⟩
      rintro r hs ⟨c, a', rfl, rfl, rfl, rfl⟩
      refine ⟨_, _, M, rfl, rfl, _, ranswer_meets b3 v2 acc ans n _ _ M hA0 hA1 (by omega), ?_⟩
      rintro r hs ⟨c, a'', rfl, rfl, rfl, rfl⟩
      refine ⟨_, _, M, rfl, rfl, ?_⟩
      refine ⟨b5, _, _, _, rfl, rfl, fun _ _ => rfl, fun _ _ => rfl, rfl, rfl, rfl, by simp, ?_⟩
      simp only [List.getD_cons_zero]
      split
      · rename_i hc
        unfold answerC at hc
        split at hc
        · omega
        · omega
      · exact hans
    · -- those who ring
      intro b7
      refine ⟨_, rothers_meets b3 v2 acc ans n M (by omega) (by omega), ?_⟩
      rintro r hs ⟨v3, m, A, B, rfl, rfl, rfl, hAB⟩
      refine ⟨v3, _, A, B, rfl, rfl, fun b8 b9 b10 b11 D l r => ⟨by omega, fun _ => ?_⟩⟩
      refine ⟨fun e => 0 ≤ e.i.getD 0 0 ∧ e.i.getD 0 0 ≤ n ∧ e.i.getD 1 0 = cnt ans M (e.i.getD 0 0) ∧ (e.i.getD 1 0 = 0 ∨ e.i.getD 1 0 < A4 k.toNat), fun e => (n - e.i.getD 0 0).toNat,
        ⟨0, 0, rfl, rfl, by simp only [List.getD_cons_zero, List.getD_cons_succ]; exact ⟨by omega, by omega, rfl, .inl (by first | rfl | trivial)⟩⟩, ?_⟩
      rintro i t ⟨i0, i1, it, ih⟩
      simp only [List.getD_cons_zero, List.getD_cons_succ] at i0 i1 it ih
      have c1 := cnt_le (ans := ans) (M := M) i0
      have c2 := cnt_nonneg (ans := ans) (M := M) (k := i)
      have c3 := cnt_mono (ans := ans) (M := M) i0 i1
      refine ⟨fun hin => ⟨.inr i0, fun _ => ⟨.inr hin, fun _ => ⟨.inr i0, fun _ => ⟨.inr hin, fun _ => ⟨fun hr => fun b14 => ?_, fun hr => ?_⟩⟩⟩⟩⟩, fun hend => ⟨by omega, fun _ => fun b14 => ?_⟩⟩
      · have c4 := cnt_mono (ans := ans) (M := M) (k := i + 1) (n := n) (by omega) (by omega)
        rw [cnt_pos i0 hr] at c4
        obtain ⟨e1, e2⟩ := hAB i i0 hin hr
        rw [← it] at e1 e2
        refine ⟨by omega, fun _ => ⟨by omega, fun _ => ⟨by omega, fun _ => ⟨by omega, fun _ => ⟨by omega, fun _ => ⟨fun hbad => ?_, fun _ => ⟨by omega, fun _ => ⟨by omega, fun _ => ⟨fun hstop => fun b15 => ?_, fun hstop => ⟨by omega, fun _ => ⟨by omega, fun _ => ?_⟩⟩⟩⟩⟩⟩⟩⟩⟩⟩⟩
        · exfalso
          rcases hbad with hbad | hbad
          · omega
          · exact hbad ⟨e1.symm, e2.symm⟩
        · refine ⟨b15, ans, M, _, rfl, rfl, fun _ _ => rfl, fun _ _ => rfl, rfl, rfl, rfl, ?_, hans⟩
          simp only [List.cons.injEq, and_true, beq_iff_eq]
          rw [imax_eq (z := t + 1) (by omega), imin_eq (z := t + 1) (by omega)]
        · refine ⟨i + 1, t + 1, rfl, rfl, ?_, ?_⟩ <;> simp only [List.getD_cons_zero, List.getD_cons_succ]
          · exact ⟨by omega, by omega, by rw [cnt_pos i0 hr, it], .inr (by omega)⟩
          · omega
      · refine ⟨by omega, fun _ => ⟨by omega, fun _ => ⟨i + 1, t, rfl, rfl, ?_, ?_⟩⟩⟩ <;> simp only [List.getD_cons_zero, List.getD_cons_succ]
        · exact ⟨by omega, by omega, by rw [cnt_neg i0 hr, it], ih⟩
        · omega
      · have : i = n := by omega
        subst this
        refine ⟨b14, ans, M, _, rfl, rfl, fun _ _ => rfl, fun _ _ => rfl, rfl, rfl, rfl, ?_, hans⟩
        simp only [List.cons.injEq, and_true, beq_iff_eq]
        by_cases hx : 1 ≤ A4 k.toNat
        · rw [imax_eq (z := A4 k.toNat) (by omega), imin_eq (z := t) (by omega)]
        · rw [imax_eq (z := 1) (by omega), imin_eq (z := t) (by omega)]
    · exact ⟨b5, ans, M, _, rfl, rfl, fun _ _ => rfl, fun _ _ => rfl, rfl, rfl, rfl, rfl, hans⟩
    -- how it stands then
    clear hans
    rintro b7 ans M q0 ⟨hq, hans⟩
    simp only [List.getD_cons_zero, List.cons.injEq, and_true] at hq hans
    subst hq
    refine ⟨_, over_meets b2 v1 acc ans n M (by omega) (by omega), ?_⟩
    rintro r hs ⟨x, q1, rfl, rfl, rfl, rfl⟩
    refine ⟨_, _, rfl, rfl, _, rover_meets b3 v2 acc ans n M (by omega) (by omega), ?_⟩
    rintro r hs ⟨x, q2, rfl, rfl, rfl, rfl⟩
    refine ⟨_, _, rfl, rfl, _, answerer_meets b2 v1 acc ans n M, ?_⟩
    rintro r hs ⟨x8, x9, q3, rfl, rfl, hq3⟩
    refine ⟨x8, x9, q3, rfl, rfl, fun b8 => ?_⟩
    have g1 : ((q3 = true) → (0 ≤ ans)) ∧ (¬ (q3 = true) → (¬ (0 ≤ ans))) := by
      rcases hq3 with ⟨h, rfl⟩ | ⟨h, rfl, _⟩
      · exact ⟨fun h => (by cases h), fun _ => by omega⟩
      · exact ⟨fun _ => h, fun h' => absurd rfl h'⟩
    have g2 : ¬ ((((¬ (true = true)) ∨ (¬ (overX ans n M = overX ans n M))) ∨ (¬ (((overQ ans n M = true) → (overQ ans n M = true)) ∧ (¬ (overQ ans n M = true) → (¬ (overQ ans n M = true)))))) ∨ (¬ (((q3 = true) → (0 ≤ ans)) ∧ (¬ (q3 = true) → (¬ (0 ≤ ans)))))) := by
      rintro (((h | h) | h) | h)
      · exact h rfl
      · exact h rfl
      · exact h ⟨id, id⟩
      · exact h g1
    refine ⟨fun hq => fun b9 => ⟨fun hbad => ?_, fun _ => ⟨by omega, fun _ => ⟨by omega, fun _ => ?_⟩⟩⟩, fun hq => ⟨fun hbad => ?_, fun _ => ⟨by omega, fun _ => ⟨by omega, fun _ => ?_⟩⟩⟩⟩
    · exfalso
      rcases hbad with hbad | ⟨hbad, hne⟩
      · exact g2 hbad
      · rcases hq3 with ⟨h, rfl⟩ | ⟨h, rfl, e1, e2⟩
        · cases hbad
        · exact hne ⟨e1, e2⟩
    · refine ⟨b7, ans, k + 1, M, rfl, rfl, fun _ _ => rfl, fun _ _ => rfl, rfl, rfl, rfl, ?_, ?_⟩ <;> simp only [List.getD_cons_zero, List.getD_cons_succ]
      · exact ⟨by omega, by omega, hans⟩
      · omega
    · exact absurd hbad g2
    · refine ⟨b7, ans, k + 1, M, rfl, rfl, fun _ _ => rfl, fun _ _ => rfl, rfl, rfl, rfl, ?_, ?_⟩ <;> simp only [List.getD_cons_zero, List.getD_cons_succ]
      · exact ⟨by omega, by omega, hans⟩
      · omega
  · -- its devices
    intro b6 b7 b8 D l r
    refine ⟨by omega, fun _ => ⟨fun e => 0 ≤ e.i.getD 0 0 ∧ e.i.getD 0 0 ≤ n ∧ e.i.getD 1 0 = e.i.getD 0 0, fun e => (n - e.i.getD 0 0).toNat, ⟨0, 0, rfl, rfl, by simp only [List.getD_cons_zero, List.getD_cons_succ]; exact ⟨by omega, by omega, by first | rfl | trivial⟩⟩, ?_⟩⟩
    rintro i t ⟨i0, i1, it⟩
    simp only [List.getD_cons_zero, List.getD_cons_succ] at i0 i1 it
    subst it
    refine ⟨fun hin => fun b11 b12 => ⟨fun hbad => absurd rfl hbad, fun _ => ⟨by omega, fun _ => ⟨by omega, fun _ => ⟨by omega, fun _ => ⟨by omega, fun _ => ⟨t + 1, t + 1, rfl, rfl, ?_, ?_⟩⟩⟩⟩⟩⟩, fun hend => ?_⟩
    · simp only [List.getD_cons_zero, List.getD_cons_succ]; exact ⟨by omega, by omega, by first | rfl | trivial⟩
    · simp only [List.getD_cons_zero]; omega
    · have : t = n := by omega
      subst this
      simp
end Go.RX.Rp
