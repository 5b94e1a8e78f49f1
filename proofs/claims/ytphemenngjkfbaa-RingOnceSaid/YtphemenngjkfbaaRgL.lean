/- RingOnce: the law. -/
import Derived.Test.YtphemenngjkfbaaRg
namespace Go.RX.Rg
open Go.RX Go.Proofs

/-- A device's key in the map. -/
abbrev key (d : Int) : Nat := Int.toNat ((kcode ((List.range 2).map (updF (updF (fun _ => 0) 0 1) 1 d)) : Nat) : Int)
theorem key_inj {d d' : Int} (h : key d = key d') : d = d' := by
  unfold key at h
  rw [Int.toNat_natCast, Int.toNat_natCast] at h
  have := kcode_inj (by simp) h
  simpa [List.range, List.range.loop, updF] using this

structure Core (n ans w0 w1 : Int) (M has : Nat → Int) (q0 : Bool) : Prop where
  lo : -1 ≤ ans
  hi : ans < n
  q : q0 = true ↔ 0 ≤ ans
  who : 0 ≤ ans → w0 = 1 ∧ w1 = ans
  has : ∀ d : Int, 0 ≤ d → d < n → (has (key d) ≠ 0 ↔ M d.toNat ≠ 1)
def Inv (n N k ans w0 w1 : Int) (M has : Nat → Int) (q0 q1 : Bool) : Prop := 0 ≤ k ∧ k ≤ N ∧ Core n ans w0 w1 M has q0 ∧ (q1 = true → overP M n)

theorem over_mark {M : Nat → Int} {n d how : Int} (h0 : 0 ≤ d) (hn : d < n) (h1 : M d.toNat = 1) (ho : overP M n) : overP (updF M d.toNat how) n := by
  rcases ho with ho | ho
  · left
    obtain ⟨j, j0, j1, j2⟩ := memb_true.1 ho
    refine memb_true.2 ⟨j, j0, j1, ?_⟩
    simp only [updF]
    rw [if_neg (by intro e; rw [e] at j2; omega)]
    exact j2
  · have : memb M n 1 = true := memb_true.2 ⟨d, h0, hn, h1⟩
    rw [ho] at this
    cases this

theorem wrap8 {x : Int} (h0 : 0 ≤ x) (h1 : x ≤ 255) : IntKind.wrap .u8 x = x := by
  simp [IntKind.wrap, IntKind.signed, IntKind.bits]
  omega

abbrev doTab (N : Int) (A0 A1 A2 A3 A4 : Nat → Int) : List Value := tabL N.toNat [colI .u8 1 A0, colI .u8 1 A1, colI .u8 1 A2, colI .u8 1 A3, colI .i64 1 A4]

theorem law_bad (v : V1) (n N : Int) (A0 A1 A2 A3 A4 : Nat → Int) (h0 : 0 ≤ N) (hn : n < 1 ∨ 4 < n) :
    Meets Try.prog 3 [.int .i64 n, v.v] [sliHP false 32 5 v.v N.toNat (doTab N A0 A1 A2 A3 A4)] (fun r _ => r = .bool true) := by
  refine Meets.of_run (C := cxI) (cnt := { i := 2, a := 5, v := 1 }) (ρ := { iv := [n, N], av := [A0, A1, A2, A3, A4], vv := [v] }) okT okFT okM Try.func3 (by constructor <;> rfl) (args := [.int .i64 (.var 0), .vv 0])
    (hp := [.sli false 0 32 5 (.var 1) doCols]) ?_
  rw [show runF cxI 3 [.int .i64 (.var 0), .vv 0] [.sli false 0 32 5 (.var 1) doCols] { i := 2, a := 5, v := 1 } Try.f3 = fm_onceI from run_onceI, vc_onceI]
  unfold st_onceI
  intro b0
  refine ⟨_, works_meets, ?_⟩
  rintro r hs ⟨rfl, rfl⟩
  refine ⟨rfl, rfl, _, new_bad 1 n (by omega), ?_⟩
  rintro r hs ⟨rfl, rfl⟩
  refine ⟨rfl, rfl, by omega, fun _ => ?_⟩
  simp
  omega

theorem law_good (v : V1) (n N : Int) (A0 A1 A2 A3 A4 : Nat → Int) (h0 : 0 ≤ N) (hn1 : 1 ≤ n) (hn4 : n ≤ 4) (h2 : ∀ j : Int, 0 ≤ j → j < N → 0 ≤ A2 j.toNat ∧ A2 j.toNat ≤ 255) :
    Meets Try.prog 3 [.int .i64 n, v.v] [sliHP false 32 5 v.v N.toNat (doTab N A0 A1 A2 A3 A4)] (fun r _ => r = .bool true) := by
  refine Meets.of_run (C := cx) (cnt := { i := 2, a := 5, v := 1 }) (ρ := { iv := [n, N], av := [A0, A1, A2, A3, A4], vv := [v] }) okT okFT okM Try.func3 (by constructor <;> rfl) (args := [.int .i64 (.var 0), .vv 0])
    (hp := [.sli false 0 32 5 (.var 1) doCols]) ?_
  rw [show runF cx 3 [.int .i64 (.var 0), .vv 0] [.sli false 0 32 5 (.var 1) doCols] { i := 2, a := 5, v := 1 } Try.f3 = fm_once from run_once, vc_once]
  unfold st_once
  intro b0
  refine ⟨_, works_meets, ?_⟩
  rintro r hs ⟨rfl, rfl⟩
  refine ⟨rfl, rfl, _, new_meets 1 n (by omega) hn1 hn4, ?_⟩
  rintro r hs ⟨b1, v1, M0, rfl, rfl, hM0⟩
  refine ⟨b1, v1, M0, rfl, rfl, h0, fun _ => ⟨fun hlen => ⟨by omega, fun _ => by simp; omega⟩, fun hlen => ?_⟩⟩
  intro b2 b3 b4 b5 b6
  refine ⟨fun e => Inv n N (e.i.getD 0 0) (e.i.getD 1 0) (e.i.getD 2 0) (e.i.getD 3 0) (e.a.getD 0 fun _ => 0) (e.a.getD 1 fun _ => 0) (e.bo.getD 0 false) (e.bo.getD 1 false), fun e => (N - e.i.getD 0 0).toNat,
    ⟨b6, 0, -1, 0, 0, M0, fun _ => 0, fun _ => 0, false, false, rfl, rfl, rfl, fun _ _ => rfl, rfl, rfl, rfl, rfl, rfl, rfl, rfl, ?_⟩, ?_⟩
  · simp only [List.getD_cons_zero, List.getD_cons_succ]
    refine ⟨Int.le_refl _, h0, ⟨by omega, by omega, by simp, by omega, fun d d0 d1 => ?_⟩, fun h => by cases h⟩
    rw [hM0 d.toNat (by omega)]
    simp
  rintro b7 k ans w0 w1 M has tab7 q0 q1 hI
  simp only [List.getD_cons_zero, List.getD_cons_succ] at hI
  obtain ⟨hk0, hk1, hC, hov⟩ := hI
  refine ⟨fun hlt => ⟨hk0, fun _ => fun b8 => ?_⟩, fun _ => rfl⟩
  obtain ⟨hA0, hA1⟩ := h2 k hk0 hlt
  refine ⟨fun e => Core n (e.i.getD 0 0) (e.i.getD 1 0) (e.i.getD 2 0) (e.a.getD 0 fun _ => 0) (e.a.getD 1 fun _ => 0) (e.bo.getD 0 false) ∧ (q1 = true → overP (e.a.getD 0 fun _ => 0) n), ⟨fun hkind => ?_, fun hkind => ⟨fun hkind1 => ?_, fun hkind1 => ?_⟩⟩, ?_⟩
  · -- a mark
    refine ⟨_, mark_meets b1 v1 1 ans n 1 (A2 k.toNat) (A3 k.toNat) M hA0 hA1 (by omega), ?_⟩
    rintro r hs ⟨c, M', rfl, rfl, hM⟩
    refine ⟨ans, c, M', rfl, rfl, fun hc => ?_, fun hc => ?_⟩
    · rcases hM with ⟨hc', _⟩ | ⟨_, ⟨_, m1, m2, m3, m4, m5⟩, rfl⟩
      · exact absurd hc hc'
      refine ⟨fun hbad => ?_, fun _ => ?_⟩
      · exfalso
        rcases hbad with hbad | hbad
        · exact (hC.has _ hA0 m1).1 hbad m5
        · have := hC.q.1 hbad; omega
      · refine ⟨_, _, _, _, _, _, _, rfl, fun _ _ => rfl, rfl, rfl, rfl, rfl, rfl, ?_⟩
        simp only [List.getD_cons_zero, List.getD_cons_succ]
        refine ⟨⟨hC.lo, hC.hi, hC.q, hC.who, fun d d0 d1 => ?_⟩, fun h => over_mark hA0 m1 m5 (hov h)⟩
        by_cases hd : d = A2 k.toNat
        · subst hd
          simp only [updF, if_true]
          constructor
          · intro _; omega
          · intro _; decide
        · have e1 : key d ≠ key (A2 k.toNat) := fun h => hd (key_inj h)
          have e2 : d.toNat ≠ (A2 k.toNat).toNat := by omega
          simp only [updF]
          rw [if_neg e1, if_neg e2]
          exact hC.has d d0 d1
    · rcases hM with ⟨_, rfl⟩ | ⟨hc', _⟩
      · refine ⟨_, _, _, _, _, _, _, rfl, fun _ _ => rfl, rfl, rfl, rfl, rfl, rfl, ?_⟩
        simp only [List.getD_cons_zero, List.getD_cons_succ]
        exact ⟨hC, hov⟩
      · exact absurd hc' hc
  · -- an answer
    refine ⟨_, answer_meets b1 v1 1 ans n 1 (A2 k.toNat) M hA0 hA1 (by omega), ?_⟩
    rintro r hs ⟨c, ans', rfl, rfl, hM⟩
    refine ⟨ans', c, M, rfl, rfl, fun hc => ?_, fun hc => ?_⟩
    · rcases hM with ⟨hc', _⟩ | ⟨_, ⟨_, m1, m2⟩, rfl⟩
      · exact absurd hc hc'
      refine ⟨fun hbad => ?_, fun _ => ?_⟩
      · have := hC.q.1 hbad; omega
      · refine ⟨_, _, _, _, _, _, _, rfl, fun _ _ => rfl, rfl, rfl, rfl, rfl, rfl, ?_⟩
        simp only [List.getD_cons_zero, List.getD_cons_succ]
        exact ⟨⟨by omega, m1, by simp; omega, fun _ => ⟨rfl, rfl⟩, hC.has⟩, hov⟩
    · rcases hM with ⟨_, rfl⟩ | ⟨hc', _⟩
      · refine ⟨_, _, _, _, _, _, _, rfl, fun _ _ => rfl, rfl, rfl, rfl, rfl, rfl, ?_⟩
        simp only [List.getD_cons_zero, List.getD_cons_succ]
        exact ⟨hC, hov⟩
      · exact absurd hc' hc
  · refine ⟨_, _, _, _, _, _, _, rfl, fun _ _ => rfl, rfl, rfl, rfl, rfl, rfl, ?_⟩
    simp only [List.getD_cons_zero, List.getD_cons_succ]
    exact ⟨hC, hov⟩
  -- what is asked then
  clear hC hov
  rintro ans w0 w1 M has t11 q2 hI
  simp only [List.getD_cons_zero, List.getD_cons_succ] at hI
  obtain ⟨hC, hov⟩ := hI
  refine ⟨_, answerer_meets b1 v1 1 ans n M, ?_⟩
  rintro r hs ⟨x9, x10, q3, rfl, rfl, h3⟩
  refine ⟨x9, x10, q3, rfl, rfl, fun b9 => ⟨_, over_meets b1 v1 1 ans n M (by omega) (by omega), ?_⟩⟩
  rintro r hs ⟨x11, q4, rfl, rfl, h4⟩
  have hw : 0 ≤ ans → IntKind.wrap .u8 ans = ans := fun h => wrap8 h (by have := hC.hi; omega)
  refine ⟨x11, q4, rfl, rfl, fun hbad => ?_, fun _ => ?_⟩
  · exfalso
    rcases hbad with ((hbad | hbad) | hbad) | hbad
    · apply hbad
      rw [hC.q]
      rcases h3 with ⟨h, rfl⟩ | ⟨h, rfl, _⟩
      · exact ⟨fun h => (by cases h), fun _ => by omega⟩
      · exact ⟨fun _ => h, fun h' => absurd rfl h'⟩
    · rcases h3 with ⟨h, rfl⟩ | ⟨h, rfl, rfl, rfl⟩
      · cases hbad.1
      · obtain ⟨e1, e2⟩ := hC.who h
        exact hbad.2 ⟨e1.symm, by rw [hw h, e2]⟩
    · obtain ⟨⟨e1, e2⟩, e3⟩ := hbad
      rw [hC.q] at e3
      exact e2 (h4.2 ⟨by omega, hov e1⟩)
    · have e1 := (h4.1 hbad.1).1
      have e2 := hC.q.1 hbad.2
      omega
  intro b10 b11 b12 D l r
  refine ⟨by omega, fun _ => ⟨fun e => 0 ≤ e.i.getD 0 0, fun e => (n - e.i.getD 0 0).toNat, ⟨0, rfl, by simp⟩, ?_⟩⟩
  rintro j hj
  simp only [List.getD_cons_zero] at hj
  refine ⟨fun hjn => ⟨.inr hj, fun _ => ⟨.inr hjn, fun _ => ⟨.inr hj, fun _ => ⟨.inr hjn, fun _ => ⟨fun hring => fun b15 => ⟨fun hbad => ?_, fun _ => ?_⟩, fun hring => ?_⟩⟩⟩⟩⟩, fun hge => ?_⟩
  · exfalso
    have hwj : IntKind.wrap .u8 j = j := wrap8 hj (by omega)
    rw [hwj] at hbad
    rcases hbad with hbad | ⟨e1, e2, e3⟩
    · exact (hC.has j hj hjn).1 hbad hring.2
    · obtain ⟨_, e5⟩ := hC.who (hC.q.1 e1)
      exact hring.1 (by rw [e3, e5])
  · refine ⟨by omega, fun _ => ⟨by omega, fun _ => ⟨_, rfl, ?_, ?_⟩⟩⟩
    · simp only [List.getD_cons_zero]; omega
    · simp only [List.getD_cons_zero]; omega
  · refine ⟨by omega, fun _ => ⟨by omega, fun _ => ⟨_, rfl, ?_, ?_⟩⟩⟩
    · simp only [List.getD_cons_zero]; omega
    · simp only [List.getD_cons_zero]; omega
  · refine ⟨by omega, fun _ => ⟨by omega, fun _ => fun b15 => ?_⟩⟩
    refine ⟨b15, _, _, _, _, _, _, _, _, _, rfl, rfl, rfl, fun _ _ => rfl, rfl, rfl, rfl, rfl, rfl, rfl, rfl, ?_, ?_⟩
    · simp only [List.getD_cons_zero, List.getD_cons_succ]
      exact ⟨by omega, by omega, hC, fun h => (h4.1 h).2⟩
    · simp only [List.getD_cons_zero]; omega
end Go.RX.Rg
