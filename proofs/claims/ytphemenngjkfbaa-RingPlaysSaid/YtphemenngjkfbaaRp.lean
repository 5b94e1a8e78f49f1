/- RingPlays: the contracts of the functions that it reaches, the program's and the document's. -/
import Derived.Test.YtphemenngjkfbaaRg
import Derived.Test.YtphemenngjkfbaaRpF
namespace Go.RX.Rp
open Go.RX Go.Proofs Go.RX.Rg

/-- What a mark is answered by. -/
def markC (acc ans n : Int) (M : Nat → Int) (d0 d1 how : Int) : Int :=
  if d0 ≠ acc ∨ n ≤ d1 then 4 else if how < 2 ∨ 4 < how then 2 else if 0 ≤ ans ∨ M d1.toNat ≠ 1 then 6 else 0
def answerC (acc ans n d0 d1 : Int) : Int := if d0 ≠ acc ∨ n ≤ d1 then 4 else if 0 ≤ ans then 6 else 0

/-- A fan after a mark, after an answer. -/
def MarkPost (b : Nat) (v : V1) (acc ans n d0 d1 how : Int) (M : Nat → Int) (r : Value) (hs : List HP) : Prop :=
  ∃ c : Int, ∃ M' : Nat → Int, r = .int .i64 c ∧ hs = fan b v acc ans n M' ∧ c = markC acc ans n M d0 d1 how ∧ M' = (if c = 0 then updF M d1.toNat how else M)
def AnswerPost (b : Nat) (v : V1) (acc ans n d0 d1 : Int) (M : Nat → Int) (r : Value) (hs : List HP) : Prop :=
  ∃ c ans' : Int, r = .int .i64 c ∧ hs = fan b v acc ans' n M ∧ c = answerC acc ans n d0 d1 ∧ ans' = (if c = 0 then d1 else ans)

theorem mark4 {acc ans n d0 d1 how : Int} {M : Nat → Int} (h : (¬ d0 = acc) ∨ n ≤ d1) : markC acc ans n M d0 d1 how = 4 := by unfold markC; rw [if_pos h]
theorem mark2 {acc ans n d0 d1 how : Int} {M : Nat → Int} (h : ¬ ((¬ d0 = acc) ∨ n ≤ d1)) (h2 : how < 2 ∨ 4 < how) : markC acc ans n M d0 d1 how = 2 := by unfold markC; rw [if_neg h, if_pos h2]
theorem mark6 {acc ans n d0 d1 how : Int} {M : Nat → Int} (h : ¬ ((¬ d0 = acc) ∨ n ≤ d1)) (h2 : ¬ (how < 2 ∨ 4 < how)) (h3 : 0 ≤ ans ∨ ¬ M d1.toNat = 1) : markC acc ans n M d0 d1 how = 6 := by unfold markC; rw [if_neg h, if_neg h2, if_pos h3]
theorem mark0 {acc ans n d0 d1 how : Int} {M : Nat → Int} (h : ¬ ((¬ d0 = acc) ∨ n ≤ d1)) (h2 : ¬ (how < 2 ∨ 4 < how)) (h3 : ¬ (0 ≤ ans ∨ ¬ M d1.toNat = 1)) : markC acc ans n M d0 d1 how = 0 := by unfold markC; rw [if_neg h, if_neg h2, if_neg h3]

theorem mark_meets (b : Nat) (v : V1) (acc ans n d0 d1 how : Int) (M : Nat → Int) (hd0 : 0 ≤ d1) (hd1 : d1 ≤ 255) (hn : 0 ≤ n) :
    Meets Try.prog 15 [.pointer (some ⟨b, 0, none⟩), .agg #[.int .u8 d0, .int .u8 d1], .int .u8 how] (fan b v acc ans n M) (MarkPost b v acc ans n d0 d1 how M) := by
  refine Meets.post (p := fun r hs => ∃ hs', Ent hs hs' ∧ MarkPost b v acc ans n d0 d1 how M r hs') ?_ fun v hs h => h
  refine Meets.of_run (C := Rg.cx) (cnt := { i := 6, a := 1, v := 1, b := 1 }) (ρ := { iv := [d0, d1, how, acc, ans, n], av := [M], vv := [v], bv := [b] }) okT okFT okM Try.func15 (by constructor <;> rfl)
    (args := [.ptr 0 0, .agg [.int .u8 (.var 0), .int .u8 (.var 1)], .int .u8 (.var 2)]) (hp := fanHp) ?_
  rw [show runF Rg.cx 15 [.ptr 0 0, .agg [.int .u8 (.var 0), .int .u8 (.var 1)], .int .u8 (.var 2)] fanHp { i := 6, a := 1, v := 1, b := 1 } Try.f15 = Rg.fm_mark from Rg.run_mark, Rg.vc_mark]
  unfold st_mark
  intro b1 b2
  have sub : ∀ (M' : Nat → Int) (l : List HP), Ent (fan b v acc ans n M' ++ l) (fan b v acc ans n M') := fun M' l => Ent.sub (List.sublist_append_left _ _)
  refine ⟨by omega, fun _ => ⟨by omega, fun _ => ⟨by omega, fun _ => ⟨fun hb => ⟨_, sub M _, 4, M, rfl, rfl, (mark4 hb).symm, rfl⟩, fun hb => ⟨fun hh => ⟨_, sub M _, 2, M, rfl, rfl, (mark2 hb hh).symm, rfl⟩, fun hh => ?_⟩⟩⟩⟩⟩
  refine ⟨by omega, fun _ => ⟨by omega, fun _ => ⟨by omega, fun _ => ⟨by omega, fun _ => ⟨fun hc => ⟨_, sub M _, 6, M, rfl, rfl, (mark6 hb hh hc).symm, rfl⟩, fun hc => ⟨by omega, fun _ => ⟨by omega, fun _ => ?_⟩⟩⟩⟩⟩⟩⟩
  exact ⟨_, sub (updF M d1.toNat how) _, 0, _, rfl, rfl, (mark0 hb hh hc).symm, rfl⟩

theorem rmark_meets (b : Nat) (v : V1) (acc ans n d0 d1 how : Int) (M : Nat → Int) (hd0 : 0 ≤ d1) (hd1 : d1 ≤ 255) (hn : 0 ≤ n) :
    Meets Try.prog 21 [.pointer (some ⟨b, 0, none⟩), .agg #[.int .u8 d0, .int .u8 d1], .int .u8 how] [rowHP b true [.int .u8 acc, v.v, .int .i64 ans], sliHP true 5 1 v.v n.toNat (tab n M)] (MarkPost b v acc ans n d0 d1 how M) := by
  refine Meets.post (p := fun r hs => ∃ hs', Ent hs hs' ∧ MarkPost b v acc ans n d0 d1 how M r hs') ?_ fun v hs h => h
  refine Meets.of_run (C := Rp.cx) (cnt := { i := 6, a := 1, v := 1, b := 1 }) (ρ := { iv := [d0, d1, how, acc, ans, n], av := [M], vv := [v], bv := [b] }) okT okFT okM Try.func21 (by constructor <;> rfl)
    (args := [.ptr 0 0, .agg [.int .u8 (.var 0), .int .u8 (.var 1)], .int .u8 (.var 2)]) (hp := refHp) ?_
  rw [show runF Rp.cx 21 [.ptr 0 0, .agg [.int .u8 (.var 0), .int .u8 (.var 1)], .int .u8 (.var 2)] refHp { i := 6, a := 1, v := 1, b := 1 } Try.f21 = fm_rmark from run_rmark, vc_rmark]
  unfold st_rmark
  intro b1 b2
  have sub : ∀ (M' : Nat → Int) (l : List HP), Ent (fan b v acc ans n M' ++ l) (fan b v acc ans n M') := fun M' l => Ent.sub (List.sublist_append_left _ _)
  refine ⟨by omega, fun _ => ⟨by omega, fun _ => ⟨by omega, fun _ => ⟨fun hb => ⟨_, sub M _, 4, M, rfl, rfl, (mark4 hb).symm, rfl⟩, fun hb => ⟨by omega, fun _ => ⟨by omega, fun _ => ⟨fun hx => by omega, fun _ => ⟨fun hh => ⟨_, sub M _, 2, M, rfl, rfl, (mark2 hb (by omega)).symm, rfl⟩, fun hh => ?_⟩⟩⟩⟩⟩⟩⟩⟩
  refine ⟨by omega, fun _ => ⟨by omega, fun _ => ⟨by omega, fun _ => ⟨by omega, fun _ => ⟨fun hc => ⟨_, sub M _, 6, M, rfl, rfl, (mark6 hb (by omega) hc).symm, rfl⟩, fun hc => ⟨by omega, fun _ => ⟨by omega, fun _ => ?_⟩⟩⟩⟩⟩⟩⟩
  exact ⟨_, sub (updF M d1.toNat how) _, 0, _, rfl, rfl, (mark0 hb (by omega) hc).symm, rfl⟩

theorem answer_meets (b : Nat) (v : V1) (acc ans n d0 d1 : Int) (M : Nat → Int) (hd0 : 0 ≤ d1) (hd1 : d1 ≤ 255) (hn : 0 ≤ n) :
    Meets Try.prog 16 [.pointer (some ⟨b, 0, none⟩), .agg #[.int .u8 d0, .int .u8 d1]] (fan b v acc ans n M) (AnswerPost b v acc ans n d0 d1 M) := by
  refine Meets.post (p := fun r hs => ∃ hs', Ent hs hs' ∧ AnswerPost b v acc ans n d0 d1 M r hs') ?_ fun v hs h => h
  refine Meets.of_run (C := Rg.cx) (cnt := { i := 6, a := 1, v := 1, b := 1 }) (ρ := { iv := [d0, d1, 0, acc, ans, n], av := [M], vv := [v], bv := [b] }) okT okFT okM Try.func16 (by constructor <;> rfl)
    (args := [.ptr 0 0, .agg [.int .u8 (.var 0), .int .u8 (.var 1)]]) (hp := fanHp) ?_
  rw [show runF Rg.cx 16 [.ptr 0 0, .agg [.int .u8 (.var 0), .int .u8 (.var 1)]] fanHp { i := 6, a := 1, v := 1, b := 1 } Try.f16 = Rg.fm_answer from Rg.run_answer, Rg.vc_answer]
  unfold st_answer
  intro b1 b2
  have sub : ∀ (ans' : Int) (l : List HP), Ent (fan b v acc ans' n M ++ l) (fan b v acc ans' n M) := fun ans' l => Ent.sub (List.sublist_append_left _ _)
  refine ⟨by omega, fun _ => ⟨by omega, fun _ => ⟨by omega, fun _ => ⟨fun hb => ⟨_, sub ans _, 4, ans, rfl, rfl, by unfold answerC; rw [if_pos hb], rfl⟩, fun hb => ⟨fun hh => ⟨_, sub ans _, 6, ans, rfl, rfl, by unfold answerC; rw [if_neg hb, if_pos hh], rfl⟩, fun hh => ?_⟩⟩⟩⟩⟩
  refine ⟨by omega, fun _ => ⟨by omega, fun _ => ?_⟩⟩
  exact ⟨_, sub d1 _, 0, _, rfl, rfl, by unfold answerC; rw [if_neg hb, if_neg hh], rfl⟩

theorem ranswer_meets (b : Nat) (v : V1) (acc ans n d0 d1 : Int) (M : Nat → Int) (hd0 : 0 ≤ d1) (hd1 : d1 ≤ 255) (hn : 0 ≤ n) :
    Meets Try.prog 22 [.pointer (some ⟨b, 0, none⟩), .agg #[.int .u8 d0, .int .u8 d1]] (fan b v acc ans n M) (AnswerPost b v acc ans n d0 d1 M) := by
  refine Meets.post (p := fun r hs => ∃ hs', Ent hs hs' ∧ AnswerPost b v acc ans n d0 d1 M r hs') ?_ fun v hs h => h
  refine Meets.of_run (C := Rp.cx) (cnt := { i := 6, a := 1, v := 1, b := 1 }) (ρ := { iv := [d0, d1, 0, acc, ans, n], av := [M], vv := [v], bv := [b] }) okT okFT okM Try.func22 (by constructor <;> rfl)
    (args := [.ptr 0 0, .agg [.int .u8 (.var 0), .int .u8 (.var 1)]]) (hp := refHp) ?_
  rw [show runF Rp.cx 22 [.ptr 0 0, .agg [.int .u8 (.var 0), .int .u8 (.var 1)]] refHp { i := 6, a := 1, v := 1, b := 1 } Try.f22 = fm_ranswer from run_ranswer, vc_ranswer]
  unfold st_ranswer
  intro b1 b2
  have sub : ∀ (ans' : Int) (l : List HP), Ent (fan b v acc ans' n M ++ l) (fan b v acc ans' n M) := fun ans' l => Ent.sub (List.sublist_append_left _ _)
  refine ⟨by omega, fun _ => ⟨by omega, fun _ => ⟨by omega, fun _ => ⟨fun hb => ⟨_, sub ans _, 4, ans, rfl, rfl, by unfold answerC; rw [if_pos hb], rfl⟩, fun hb => ⟨by omega, fun _ => ⟨by omega, fun _ => ⟨fun hx => by omega, fun _ => ⟨fun hh => ⟨_, sub ans _, 6, ans, rfl, rfl, by unfold answerC; rw [if_neg hb, if_pos hh], rfl⟩, fun hh => ?_⟩⟩⟩⟩⟩⟩⟩⟩
  exact ⟨_, sub d1 _, 0, _, rfl, rfl, by unfold answerC; rw [if_neg hb, if_neg hh], rfl⟩

/-- How a fan is over: with what, and if. -/
noncomputable def overX (ans n : Int) (M : Nat → Int) : Int := if 0 ≤ ans then 0 else if memb M n 3 then 4 else if memb M n 1 then 0 else if memb M n 2 then 5 else 3
noncomputable def overQ (ans n : Int) (M : Nat → Int) : Bool := if 0 ≤ ans then false else if memb M n 3 then true else if memb M n 1 then false else true
def OverPost (b : Nat) (v : V1) (acc ans n : Int) (M : Nat → Int) (r : Value) (hs : List HP) : Prop :=
  ∃ x : Int, ∃ q : Bool, r = .tuple #[.int .u8 x, .bool q] ∧ hs = fan b v acc ans n M ∧ x = overX ans n M ∧ q = overQ ans n M

theorem bf {b : Bool} (h : ¬ b = true) : b = false := by cases b <;> simp_all
theorem over_meets (b : Nat) (v : V1) (acc ans n : Int) (M : Nat → Int) (h0 : 0 ≤ n) (h1 : n ≤ 9223372036854775807) :
    Meets Try.prog 18 [.pointer (some ⟨b, 0, none⟩)] (fan b v acc ans n M) (OverPost b v acc ans n M) := by
  refine Meets.of_run (C := Rg.cx) (cnt := { i := 6, a := 1, v := 1, b := 1 }) (ρ := { iv := [0, 0, 0, acc, ans, n], av := [M], vv := [v], bv := [b] }) okT okFT okM Try.func18 (by constructor <;> rfl) (args := [.ptr 0 0]) (hp := fanHp) ?_
  rw [show runF Rg.cx 18 [.ptr 0 0] fanHp { i := 6, a := 1, v := 1, b := 1 } Try.f18 = Rg.fm_over from Rg.run_over, Rg.vc_over]
  unfold st_over
  refine ⟨fun h => ⟨0, false, rfl, rfl, by simp [overX, h], by simp [overQ, h]⟩, fun h => ⟨_, index_meets v n 3 M h0 h1, ?_⟩⟩
  rintro r hs ⟨k3, rfl, rfl, hk3⟩
  refine ⟨k3, rfl, rfl, fun g3 => ⟨4, true, rfl, rfl, by simp [overX, h, hk3.1 g3], by simp [overQ, h, hk3.1 g3]⟩, fun g3 => ⟨_, index_meets v n 1 M h0 h1, ?_⟩⟩
  rintro r hs ⟨k1, rfl, rfl, hk1⟩
  have n3 : memb M n 3 = false := bf fun hm => g3 (hk3.2 hm)
  refine ⟨k1, rfl, rfl, fun g1 => ⟨0, false, rfl, rfl, by simp [overX, n3, hk1.1 g1], by simp [overQ, n3, hk1.1 g1]⟩, fun g1 => ⟨_, index_meets v n 2 M h0 h1, ?_⟩⟩
  rintro r hs ⟨k2, rfl, rfl, hk2⟩
  have n1 : memb M n 1 = false := bf fun hm => g1 (hk1.2 hm)
  refine ⟨k2, rfl, rfl, fun g2 => ⟨5, true, rfl, rfl, by simp [overX, h, n3, n1, hk2.1 g2], by simp [overQ, h, n3, n1]⟩, fun g2 => ⟨3, true, rfl, rfl, by simp [overX, h, n3, n1, bf fun hm => g2 (hk2.2 hm)], by simp [overQ, h, n3, n1]⟩⟩

theorem memb_succ {M : Nat → Int} {k x : Int} (h : 0 ≤ k) : memb M (k + 1) x = (memb M k x || (M k.toNat == x)) := by
  apply Bool.eq_iff_iff.2
  rw [Bool.or_eq_true, memb_true, memb_true, beq_iff_eq]
  constructor
  · rintro ⟨j, j0, j1, j2⟩
    by_cases hj : j = k
    · subst hj; exact .inr j2
    · exact .inl ⟨j, j0, by omega, j2⟩
  · rintro (⟨j, j0, j1, j2⟩ | h2)
    · exact ⟨j, j0, by omega, j2⟩
    · exact ⟨k, h, by omega, h2⟩
theorem memb_zero {M : Nat → Int} {x : Int} : memb M 0 x = false := bf fun h => by obtain ⟨j, j0, j1, _⟩ := memb_true.1 h; omega

theorem rover_meets (b : Nat) (v : V1) (acc ans n : Int) (M : Nat → Int) (h0 : 0 ≤ n) (h1 : n ≤ 9223372036854775806) :
    Meets Try.prog 24 [.pointer (some ⟨b, 0, none⟩)] (fan b v acc ans n M) (OverPost b v acc ans n M) := by
  refine Meets.of_run (C := Rp.cx) (cnt := { i := 6, a := 1, v := 1, b := 1 }) (ρ := { iv := [0, 0, 0, acc, ans, n], av := [M], vv := [v], bv := [b] }) okT okFT okM Try.func24 (by constructor <;> rfl) (args := [.ptr 0 0]) (hp := refHp) ?_
  rw [show runF Rp.cx 24 [.ptr 0 0] refHp { i := 6, a := 1, v := 1, b := 1 } Try.f24 = fm_rover from run_rover, vc_rover]
  unfold st_rover
  refine ⟨fun e => 0 ≤ e.i.getD 0 0 ∧ e.i.getD 0 0 ≤ n ∧ e.bo = [memb M (e.i.getD 0 0) 2, memb M (e.i.getD 0 0) 3, memb M (e.i.getD 0 0) 1], fun e => (n - e.i.getD 0 0).toNat, ⟨0, false, false, false, rfl, rfl, rfl, rfl, by simp [memb_zero, h0]⟩, ?_⟩
  rintro k q0 q1 q2 ⟨k0, k1, hq⟩
  simp only [List.getD_cons_zero, List.cons.injEq, and_true] at k0 k1 hq
  obtain ⟨rfl, rfl, rfl⟩ := hq
  refine ⟨h0, fun _ => ⟨fun hlt => ?_, fun hge => ?_⟩⟩
  · refine ⟨by omega, fun _ => ⟨by omega, fun _ => ⟨by omega, fun _ => ⟨by omega, fun _ => ⟨by omega, fun _ => ⟨by omega, fun _ => ⟨by omega, fun _ => ⟨by omega, fun _ => ⟨by omega, fun _ => ⟨by omega, fun _ => ⟨by omega, fun _ => ⟨by omega, fun _ => ⟨by omega, fun _ => ⟨by omega, fun _ => ?_⟩⟩⟩⟩⟩⟩⟩⟩⟩⟩⟩⟩⟩⟩
    refine ⟨k + 1, _, _, _, rfl, rfl, rfl, rfl, ⟨?_, ?_, ?_⟩, ?_⟩ <;> simp only [List.getD_cons_zero]
    · omega
    · omega
    · rw [memb_succ k0, memb_succ k0, memb_succ k0]
    · omega
  · have : k = n := by omega
    subst this
    refine ⟨fun hc => ⟨0, false, rfl, rfl, ?_⟩, fun hc => ⟨fun h3 => ⟨4, true, rfl, rfl, ?_⟩, fun h3 => ⟨fun h2 => ⟨5, true, rfl, rfl, ?_⟩, fun h2 => ⟨3, true, rfl, rfl, ?_⟩⟩⟩⟩
    · rcases hc with hc | ⟨c1, c3⟩
      · simp [overX, overQ, hc]
      · simp [overX, overQ, c1, bf c3]
    · have : ¬ 0 ≤ ans := fun h => hc (.inl h)
      simp [overX, overQ, this, h3]
    · have ha : ¬ 0 ≤ ans := fun h => hc (.inl h)
      have h1 : memb M k 1 = false := bf fun h => hc (.inr ⟨h, h3⟩)
      simp [overX, overQ, ha, h1, bf h3, h2]
    · have ha : ¬ 0 ≤ ans := fun h => hc (.inl h)
      have h1 : memb M k 1 = false := bf fun h => hc (.inr ⟨h, h3⟩)
      simp [overX, overQ, ha, h1, bf h3, bf h2]

/-- Who still rings, below a place. -/
def ring (ans : Int) (M : Nat → Int) (k : Int) : Prop := ¬ k = ans ∧ M k.toNat = 1
instance (ans : Int) (M : Nat → Int) (k : Int) : Decidable (ring ans M k) := by unfold ring; infer_instance
def cntN (ans : Int) (M : Nat → Int) : Nat → Nat
  | 0 => 0
  | k + 1 => cntN ans M k + if ring ans M k then 1 else 0
def cnt (ans : Int) (M : Nat → Int) (k : Int) : Int := (cntN ans M k.toNat : Nat)
theorem cnt_zero {ans : Int} {M : Nat → Int} : cnt ans M 0 = 0 := rfl
theorem cnt_nonneg {ans : Int} {M : Nat → Int} {k : Int} : 0 ≤ cnt ans M k := by unfold cnt; omega
theorem cnt_pos {ans : Int} {M : Nat → Int} {k : Int} (h0 : 0 ≤ k) (h : ring ans M k) : cnt ans M (k + 1) = cnt ans M k + 1 := by
  unfold cnt
  rw [show (k + 1).toNat = k.toNat + 1 by omega, cntN, show ((k.toNat : Nat) : Int) = k by omega, if_pos h]
  omega
theorem cnt_neg {ans : Int} {M : Nat → Int} {k : Int} (h0 : 0 ≤ k) (h : ¬ ring ans M k) : cnt ans M (k + 1) = cnt ans M k := by
  unfold cnt
  rw [show (k + 1).toNat = k.toNat + 1 by omega, cntN, show ((k.toNat : Nat) : Int) = k by omega, if_neg h]
  omega
theorem cnt_le {ans : Int} {M : Nat → Int} {k : Int} (h0 : 0 ≤ k) : cnt ans M k ≤ k := by
  unfold cnt
  have : ∀ n : Nat, cntN ans M n ≤ n := by
    intro n
    induction n with
    | zero => exact Nat.le_refl _
    | succ n ih => unfold cntN; split <;> omega
  have := this k.toNat
  omega
theorem cnt_mono {ans : Int} {M : Nat → Int} {k n : Int} (h0 : 0 ≤ k) (h : k ≤ n) : cnt ans M k ≤ cnt ans M n := by
  unfold cnt
  have : ∀ d : Nat, cntN ans M k.toNat ≤ cntN ans M (k.toNat + d) := by
    intro d
    induction d with
    | zero => exact Nat.le_refl _
    | succ d ih => rw [← Nat.add_assoc, cntN]; split <;> omega
  have := this (n.toNat - k.toNat)
  rw [show k.toNat + (n.toNat - k.toNat) = n.toNat by omega] at this
  omega

/-- The list of those who still ring, as the document tells it. -/
def OthersPost (b : Nat) (v : V1) (acc ans n : Int) (M : Nat → Int) (r : Value) (hs : List HP) : Prop :=
  ∃ v2 : V1, ∃ m : Int, ∃ A B : Nat → Int, r = v2.v ∧ hs = fan b v acc ans n M ++ [sliHP true 30 2 v2.v m.toNat (tabL m.toNat [colI .u8 1 A, colI .u8 1 B])] ∧ m = cnt ans M n ∧
    ∀ k : Int, 0 ≤ k → k < n → ring ans M k → A (cnt ans M k).toNat = acc ∧ B (cnt ans M k).toNat = IntKind.wrap .u8 k

theorem rothers_meets (b : Nat) (v : V1) (acc ans n : Int) (M : Nat → Int) (h0 : 0 ≤ n) (h1 : n ≤ 70000000000) :
    Meets Try.prog 23 [.pointer (some ⟨b, 0, none⟩)] (fan b v acc ans n M) (OthersPost b v acc ans n M) := by
  refine Meets.post (p := fun r hs => ∃ hs', Ent hs hs' ∧ OthersPost b v acc ans n M r hs') ?_ fun v hs h => h
  refine Meets.of_run (C := Rp.cx) (cnt := { i := 6, a := 1, v := 1, b := 1 }) (ρ := { iv := [0, 0, 0, acc, ans, n], av := [M], vv := [v], bv := [b] }) okT okFT okM Try.func23 (by constructor <;> rfl) (args := [.ptr 0 0]) (hp := refHp) ?_
  rw [show runF Rp.cx 23 [.ptr 0 0] refHp { i := 6, a := 1, v := 1, b := 1 } Try.f23 = fm_rothers from run_rothers, vc_rothers]
  unfold st_rothers
  refine ⟨fun e => 0 ≤ e.i.getD 0 0 ∧ e.i.getD 0 0 ≤ n ∧ e.i.getD 1 0 = cnt ans M (e.i.getD 0 0) ∧ ∀ k : Int, 0 ≤ k → k < e.i.getD 0 0 → ring ans M k → (e.a.getD 0 fun _ => 0) (cnt ans M k).toNat = acc ∧ (e.a.getD 1 fun _ => 0) (cnt ans M k).toNat = IntKind.wrap .u8 k,
    fun e => (n - e.i.getD 0 0).toNat, ⟨_, 0, 0, fun _ => 0, fun _ => 0, rfl, rfl, rfl, rfl, fun _ _ => rfl, fun _ _ => rfl, ?_⟩, ?_⟩
  · simp only [List.getD_cons_zero, List.getD_cons_succ]
    exact ⟨Int.le_refl _, h0, rfl, fun k _ _ => by omega⟩
  rintro v2 i m A B ⟨i0, i1, im, iA⟩
  simp only [List.getD_cons_zero, List.getD_cons_succ] at i0 i1 im iA
  have cle := cnt_le (ans := ans) (M := M) i0
  have cnn := cnt_nonneg (ans := ans) (M := M) (k := i)
  refine ⟨h0, fun _ => ⟨fun hlt => ⟨by omega, fun _ => ⟨by omega, fun _ => ⟨by omega, fun _ => ⟨by omega, fun _ => ⟨fun hr => ?_, fun hr => ?_⟩⟩⟩⟩⟩, fun hge => ?_⟩⟩
  · intro b1
    refine ⟨by omega, fun _ => ⟨by omega, fun _ => fun v3 => ⟨by omega, fun _ => ⟨by omega, fun _ => ?_⟩⟩⟩⟩
    refine ⟨v3, i + 1, m + 1, _, _, rfl, rfl, rfl, rfl, fun _ _ => rfl, fun _ _ => rfl, ⟨?_, ?_, ?_, ?_⟩, ?_⟩ <;> simp only [List.getD_cons_zero, List.getD_cons_succ]
    · omega
    · omega
    · rw [cnt_pos i0 hr, im]
    · intro k k0 k1 kr
      by_cases hk : k = i
      · subst hk
        rw [← im]
        simp [updF]
      · have := cnt_mono (ans := ans) (M := M) (k := k + 1) (n := i) (by omega) (by omega)
        rw [cnt_pos k0 kr] at this
        have k2 := cnt_nonneg (ans := ans) (M := M) (k := k)
        simp only [updF]
        rw [if_neg (by omega), if_neg (by omega)]
        exact iA k k0 (by omega) kr
    · omega
  · refine ⟨by omega, fun _ => ⟨by omega, fun _ => ?_⟩⟩
    refine ⟨v2, i + 1, m, A, B, rfl, rfl, rfl, rfl, fun _ _ => rfl, fun _ _ => rfl, ⟨?_, ?_, ?_, ?_⟩, ?_⟩ <;> simp only [List.getD_cons_zero, List.getD_cons_succ]
    · omega
    · omega
    · rw [cnt_neg i0 hr, im]
    · intro k k0 k1 kr
      by_cases hk : k = i
      · subst hk; exact absurd kr hr
      · exact iA k k0 (by omega) kr
    · omega
  · have : i = n := by omega
    subst this
    exact ⟨_, Ent.refl _, v2, m, A, B, rfl, rfl, im, iA⟩

theorem rnew_meets (acc n : Int) (h : acc < 8) (h1 : 1 ≤ n) (h4 : n ≤ 4) :
    Meets Try.prog 20 [.int .u8 acc, .int .i64 n] [] (fun r hs => ∃ v : V1, ∃ A : Nat → Int, r = .tuple #[.agg #[.int .u8 acc, v.v, .int .i64 (-1)], .bool true] ∧ hs = [sliHP true 5 1 v.v n.toNat (tab n A)] ∧ ∀ j, j < n.toNat → A j = 1) := by
  refine Meets.post (p := fun r hs => ∃ hs', Ent hs hs' ∧ ∃ v : V1, ∃ A : Nat → Int, r = .tuple #[.agg #[.int .u8 acc, v.v, .int .i64 (-1)], .bool true] ∧ hs' = [sliHP true 5 1 v.v n.toNat (tab n A)] ∧ ∀ j, j < n.toNat → A j = 1) ?_ fun v hs h => h
  refine Meets.of_run (C := Rp.cx) (cnt := { i := 2 }) (ρ := { iv := [acc, n] }) okT okFT okM Try.func20 (by constructor <;> rfl) (args := [.int .u8 (.var 0), .int .i64 (.var 1)]) (hp := []) ?_
  rw [run_rnew, vc_rnew]
  unfold st_rnew
  intro b0 b1
  refine ⟨fun hbad => by omega, fun _ => ?_⟩
  refine ⟨fun e => 0 ≤ e.i.getD 0 0 ∧ e.i.getD 0 0 ≤ n ∧ ∀ j, j < (e.i.getD 0 0).toNat → e.a.getD 0 (fun _ => 0) j = 1, fun e => (n - e.i.getD 0 0).toNat, ⟨_, 0, fun _ => 0, rfl, rfl, rfl, rfl, fun _ _ => rfl, ?_⟩, ?_⟩
  · simp only [List.getD_cons_zero]
    exact ⟨by omega, by omega, fun j hj => by simp at hj⟩
  rintro v1 k A ⟨hk0, hk1, hk2⟩
  simp only [List.getD_cons_zero] at hk0 hk1 hk2
  refine ⟨fun hlt => fun b2 => ⟨hk0, fun _ => ⟨by omega, fun _ => fun v2 => ⟨by omega, fun _ => ⟨by omega, fun _ => ⟨v2, k + 1, _, rfl, rfl, rfl, rfl, fun _ _ => rfl, ?_, ?_⟩⟩⟩⟩⟩, fun hge => ?_⟩
  · simp only [List.getD_cons_zero]
    refine ⟨by omega, by omega, fun j hj => ?_⟩
    simp only [updF]
    split
    · rfl
    · exact hk2 j (by omega)
  · simp only [List.getD_cons_zero]; omega
  · have hkn : k = n := by omega
    subst hkn
    exact ⟨_, Ent.sub (List.sublist_append_right [_, _] _), v1, A, rfl, rfl, hk2⟩
theorem rnew_bad (acc n : Int) (h : 8 ≤ acc ∨ n < 1 ∨ 4 < n) :
    Meets Try.prog 20 [.int .u8 acc, .int .i64 n] [] (fun r hs => r = .tuple #[.agg #[.int .u8 acc, .slice none 0 0, .int .i64 (-1)], .bool false] ∧ hs = []) := by
  refine Meets.post (p := fun r hs => ∃ hs', Ent hs hs' ∧ r = .tuple #[.agg #[.int .u8 acc, .slice none 0 0, .int .i64 (-1)], .bool false] ∧ hs' = []) ?_ fun v hs h => h
  refine Meets.of_run (C := Rp.cx) (cnt := { i := 2 }) (ρ := { iv := [acc, n] }) okT okFT okM Try.func20 (by constructor <;> rfl) (args := [.int .u8 (.var 0), .int .i64 (.var 1)]) (hp := []) ?_
  rw [run_rnew, vc_rnew]
  unfold st_rnew
  intro b0 b1
  exact ⟨fun _ => ⟨_, Ent.sub (List.nil_sublist _), rfl, rfl⟩, fun hn => absurd (by omega) hn⟩
end Go.RX.Rp
