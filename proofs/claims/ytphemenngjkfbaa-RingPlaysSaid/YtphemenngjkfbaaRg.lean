/- RingOnce: the contracts of the functions that it reaches. -/
import Derived.Test.YtphemenngjkfbaaRgF
namespace Go.RX.Rg
open Go.RX Go.Proofs

/-- Nothing is told: a closed call is run. -/
noncomputable def cx0 : Ctx := { T := TT, FT := FT }
theorem works_ran : (runF cx0 13 [] [] {} Try.f13).triv = true := by kernel_rfl
theorem works_meets : Meets Try.prog 13 [] [] (fun v hs => v = .bool true ∧ hs = []) := Meets.triv (C := cx0) okT okFT okM Try.func13 works_ran

/-- x is among the first n. -/
noncomputable def memb (A : Nat → Int) (n x : Int) : Bool := @decide (∃ j : Int, 0 ≤ j ∧ j < n ∧ A j.toNat = x) (Classical.propDecidable _)
theorem memb_true {A : Nat → Int} {n x : Int} : memb A n x = true ↔ ∃ j : Int, 0 ≤ j ∧ j < n ∧ A j.toNat = x := by simp [memb]

abbrev tab (n : Int) (A : Nat → Int) : List Value := tabL n.toNat [colI .u8 1 A]
abbrev fan (b : Nat) (v : V1) (acc ans n : Int) (M : Nat → Int) : List HP := [rowHP b true [.int .u8 acc, v.v, .int .i64 ans], sliHP true 5 1 v.v n.toNat (tab n M)]

theorem index_meets (v : V1) (n x : Int) (A : Nat → Int) (h0 : 0 ≤ n) (h1 : n ≤ 9223372036854775807) :
    Meets Try.prog 102 [v.v, .int .u8 x] [sliHP true 5 1 v.v n.toNat (tab n A)]
      (fun r hs => ∃ k : Int, r = .int .i64 k ∧ hs = [sliHP true 5 1 v.v n.toNat (tab n A)] ∧ (0 ≤ k ↔ memb A n x = true)) := by
  refine Meets.of_run (C := cx) (cnt := { i := 2, a := 1, v := 1 }) (ρ := { iv := [n, x], av := [A], vv := [v] }) okT okFT okM Try.func102 (by constructor <;> rfl) (args := [.vv 0, .int .u8 (.var 1)])
    (hp := [.sli true 0 5 1 (.var 0) [⟨.int .u8, 1, .avar 0⟩]]) ?_
  rw [run_index, vc_index]
  unfold st_index
  refine ⟨h0, fun _ => ⟨fun e => 0 ≤ e.i.getD 0 0 ∧ ∀ j : Int, 0 ≤ j → j < e.i.getD 0 0 → A j.toNat ≠ x, fun e => (n - e.i.getD 0 0).toNat, ⟨0, rfl, by simp; omega⟩, ?_⟩⟩
  rintro k ⟨hk0, hk1⟩
  simp only [List.getD_cons_zero] at hk0 hk1
  refine ⟨fun hlt => ⟨hk0, fun _ => ⟨fun he => ⟨k, rfl, rfl, fun _ => memb_true.2 ⟨k, hk0, hlt, he.symm⟩, fun _ => hk0⟩, fun hne => ⟨by omega, fun _ => ⟨by omega, fun _ => ⟨_, rfl, ?_, ?_⟩⟩⟩⟩⟩, fun hge => ⟨-1, rfl, rfl, fun h => by omega, fun hm => ?_⟩⟩
  · simp only [List.getD_cons_zero]
    refine ⟨by omega, fun j h0 h1 => ?_⟩
    by_cases hj : j = k
    · subst hj; exact fun h => hne h.symm
    · exact hk1 j h0 (by omega)
  · simp only [List.getD_cons_zero]; omega
  · obtain ⟨j, j0, j1, j2⟩ := memb_true.1 hm
    exact absurd j2 (hk1 j j0 (by omega))

theorem new_meets (acc n : Int) (h : acc < 8) (h1 : 1 ≤ n) (h4 : n ≤ 4) :
    Meets Try.prog 14 [.int .u8 acc, .int .i64 n] [] (fun r hs => ∃ b : Nat, ∃ v : V1, ∃ A : Nat → Int, r = .tuple #[.pointer (some ⟨b, 0, none⟩), .int .i64 0] ∧ hs = fan b v acc (-1) n A ∧ ∀ j, j < n.toNat → A j = 1) := by
  refine Meets.of_run (C := cx) (cnt := { i := 2 }) (ρ := { iv := [acc, n] }) okT okFT okM Try.func14 (by constructor <;> rfl) (args := [.int .u8 (.var 0), .int .i64 (.var 1)]) (hp := []) ?_
  rw [run_new, vc_new]
  unfold st_new
  refine ⟨fun hbad => by omega, fun _ => fun b0 => ?_⟩
  refine ⟨fun e => 0 ≤ e.i.getD 0 0 ∧ e.i.getD 0 0 ≤ n ∧ ∀ j, j < (e.i.getD 0 0).toNat → e.a.getD 0 (fun _ => 0) j = 1, fun e => (n - e.i.getD 0 0).toNat, ⟨_, 0, fun _ => 0, rfl, rfl, rfl, rfl, fun _ _ => rfl, ?_⟩, ?_⟩
  · simp only [List.getD_cons_zero]
    exact ⟨by omega, by omega, fun j hj => by simp at hj⟩
  rintro v1 k A ⟨hk0, hk1, hk2⟩
  simp only [List.getD_cons_zero] at hk0 hk1 hk2
  refine ⟨fun hlt => fun b1 => ⟨hk0, fun _ => ⟨by omega, fun _ => fun v2 => ⟨by omega, fun _ => ⟨by omega, fun _ => ⟨v2, k + 1, _, rfl, rfl, rfl, rfl, fun _ _ => rfl, ?_, ?_⟩⟩⟩⟩⟩, fun hge => ?_⟩
  · simp only [List.getD_cons_zero]
    refine ⟨by omega, by omega, fun j hj => ?_⟩
    simp only [updF]
    split
    · rfl
    · exact hk2 j (by omega)
  · simp only [List.getD_cons_zero]; omega
  · have hkn : k = n := by omega
    subst hkn
    exact ⟨b0, v1, A, rfl, rfl, hk2⟩
theorem new_bad (acc n : Int) (h : 8 ≤ acc ∨ n < 1 ∨ 4 < n) :
    Meets Try.prog 14 [.int .u8 acc, .int .i64 n] [] (fun r hs => r = .tuple #[.pointer none, .int .i64 2] ∧ hs = []) := by
  refine Meets.of_run (C := cx) (cnt := { i := 2 }) (ρ := { iv := [acc, n] }) okT okFT okM Try.func14 (by constructor <;> rfl) (args := [.int .u8 (.var 0), .int .i64 (.var 1)]) (hp := []) ?_
  rw [run_new, vc_new]
  unfold st_new
  exact ⟨fun _ => ⟨rfl, rfl⟩, fun hn => absurd (by omega) hn⟩

/-- What a mark does. -/
def markOk (acc ans n : Int) (M : Nat → Int) (d0 d1 how : Int) : Prop := d0 = acc ∧ d1 < n ∧ 2 ≤ how ∧ how ≤ 4 ∧ ans < 0 ∧ M d1.toNat = 1
theorem mark_meets (b : Nat) (v : V1) (acc ans n d0 d1 how : Int) (M : Nat → Int) (hd0 : 0 ≤ d1) (hd1 : d1 ≤ 255) (hn : 0 ≤ n) :
    Meets Try.prog 15 [.pointer (some ⟨b, 0, none⟩), .agg #[.int .u8 d0, .int .u8 d1], .int .u8 how] (fan b v acc ans n M)
      (fun r hs => ∃ c : Int, ∃ M' : Nat → Int, r = .int .i64 c ∧ hs = fan b v acc ans n M' ∧ ((c ≠ 0 ∧ M' = M) ∨ (c = 0 ∧ markOk acc ans n M d0 d1 how ∧ M' = updF M d1.toNat how))) := by
  refine Meets.post (p := fun r hs => ∃ hs', Ent hs hs' ∧ ∃ c : Int, ∃ M' : Nat → Int, r = .int .i64 c ∧ hs' = fan b v acc ans n M' ∧ ((c ≠ 0 ∧ M' = M) ∨ (c = 0 ∧ markOk acc ans n M d0 d1 how ∧ M' = updF M d1.toNat how))) ?_ fun v hs h => h
  refine Meets.of_run (C := cx) (cnt := { i := 6, a := 1, v := 1, b := 1 }) (ρ := { iv := [d0, d1, how, acc, ans, n], av := [M], vv := [v], bv := [b] }) okT okFT okM Try.func15 (by constructor <;> rfl)
    (args := [.ptr 0 0, .agg [.int .u8 (.var 0), .int .u8 (.var 1)], .int .u8 (.var 2)]) (hp := fanHp) ?_
  rw [show runF cx 15 [.ptr 0 0, .agg [.int .u8 (.var 0), .int .u8 (.var 1)], .int .u8 (.var 2)] fanHp { i := 6, a := 1, v := 1, b := 1 } Try.f15 = fm_mark from run_mark, vc_mark]
  unfold st_mark
  intro b1 b2
  have sub : ∀ (M' : Nat → Int) (l : List HP), Ent (fan b v acc ans n M' ++ l) (fan b v acc ans n M') := fun M' l => Ent.sub (List.sublist_append_left _ _)
  refine ⟨by omega, fun _ => ⟨by omega, fun _ => ⟨by omega, fun _ => ⟨fun hb => ⟨_, sub M _, 4, M, rfl, rfl, .inl ⟨by omega, rfl⟩⟩, fun hb => ⟨fun hh => ⟨_, sub M _, 2, M, rfl, rfl, .inl ⟨by omega, rfl⟩⟩, fun hh => ?_⟩⟩⟩⟩⟩
  refine ⟨by omega, fun _ => ⟨by omega, fun _ => ⟨by omega, fun _ => ⟨by omega, fun _ => ⟨fun hc => ⟨_, sub M _, 6, M, rfl, rfl, .inl ⟨by omega, rfl⟩⟩, fun hc => ⟨by omega, fun _ => ⟨by omega, fun _ => ?_⟩⟩⟩⟩⟩⟩⟩
  refine ⟨_, sub (updF M d1.toNat how) _, 0, _, rfl, rfl, .inr ⟨rfl, ⟨?_, ?_, ?_, ?_, ?_, ?_⟩, rfl⟩⟩ <;> omega

def answerOk (acc ans n d0 d1 : Int) : Prop := d0 = acc ∧ d1 < n ∧ ans < 0
theorem answer_meets (b : Nat) (v : V1) (acc ans n d0 d1 : Int) (M : Nat → Int) (hd0 : 0 ≤ d1) (hd1 : d1 ≤ 255) (hn : 0 ≤ n) :
    Meets Try.prog 16 [.pointer (some ⟨b, 0, none⟩), .agg #[.int .u8 d0, .int .u8 d1]] (fan b v acc ans n M)
      (fun r hs => ∃ c ans' : Int, r = .int .i64 c ∧ hs = fan b v acc ans' n M ∧ ((c ≠ 0 ∧ ans' = ans) ∨ (c = 0 ∧ answerOk acc ans n d0 d1 ∧ ans' = d1))) := by
  refine Meets.post (p := fun r hs => ∃ hs', Ent hs hs' ∧ ∃ c ans' : Int, r = .int .i64 c ∧ hs' = fan b v acc ans' n M ∧ ((c ≠ 0 ∧ ans' = ans) ∨ (c = 0 ∧ answerOk acc ans n d0 d1 ∧ ans' = d1))) ?_ fun v hs h => h
  refine Meets.of_run (C := cx) (cnt := { i := 6, a := 1, v := 1, b := 1 }) (ρ := { iv := [d0, d1, 0, acc, ans, n], av := [M], vv := [v], bv := [b] }) okT okFT okM Try.func16 (by constructor <;> rfl)
    (args := [.ptr 0 0, .agg [.int .u8 (.var 0), .int .u8 (.var 1)]]) (hp := fanHp) ?_
  rw [show runF cx 16 [.ptr 0 0, .agg [.int .u8 (.var 0), .int .u8 (.var 1)]] fanHp { i := 6, a := 1, v := 1, b := 1 } Try.f16 = fm_answer from run_answer, vc_answer]
  unfold st_answer
  intro b1 b2
  have sub : ∀ (ans' : Int) (l : List HP), Ent (fan b v acc ans' n M ++ l) (fan b v acc ans' n M) := fun ans' l => Ent.sub (List.sublist_append_left _ _)
  refine ⟨by omega, fun _ => ⟨by omega, fun _ => ⟨by omega, fun _ => ⟨fun hb => ⟨_, sub ans _, 4, ans, rfl, rfl, .inl ⟨by omega, rfl⟩⟩, fun hb => ⟨fun hh => ⟨_, sub ans _, 6, ans, rfl, rfl, .inl ⟨by omega, rfl⟩⟩, fun hh => ?_⟩⟩⟩⟩⟩
  refine ⟨by omega, fun _ => ⟨by omega, fun _ => ?_⟩⟩
  refine ⟨_, sub d1 _, 0, _, rfl, rfl, .inr ⟨rfl, ⟨?_, ?_, ?_⟩, rfl⟩⟩ <;> omega

theorem answerer_meets (b : Nat) (v : V1) (acc ans n : Int) (M : Nat → Int) :
    Meets Try.prog 17 [.pointer (some ⟨b, 0, none⟩)] (fan b v acc ans n M)
      (fun r hs => ∃ x y : Int, ∃ q : Bool, r = .tuple #[.agg #[.int .u8 x, .int .u8 y], .bool q] ∧ hs = fan b v acc ans n M ∧ ((ans < 0 ∧ q = false) ∨ (0 ≤ ans ∧ q = true ∧ x = acc ∧ y = IntKind.wrap .u8 ans))) := by
  refine Meets.post (p := fun r hs => ∃ hs', Ent hs hs' ∧ ∃ x y : Int, ∃ q : Bool, r = .tuple #[.agg #[.int .u8 x, .int .u8 y], .bool q] ∧ hs' = fan b v acc ans n M ∧ ((ans < 0 ∧ q = false) ∨ (0 ≤ ans ∧ q = true ∧ x = acc ∧ y = IntKind.wrap .u8 ans))) ?_ fun v hs h => h
  refine Meets.of_run (C := cx) (cnt := { i := 6, a := 1, v := 1, b := 1 }) (ρ := { iv := [0, 0, 0, acc, ans, n], av := [M], vv := [v], bv := [b] }) okT okFT okM Try.func17 (by constructor <;> rfl) (args := [.ptr 0 0]) (hp := fanHp) ?_
  rw [show runF cx 17 [.ptr 0 0] fanHp { i := 6, a := 1, v := 1, b := 1 } Try.f17 = fm_answerer from run_answerer, vc_answerer]
  unfold st_answerer
  intro b1
  have sub : ∀ l : List HP, Ent (fan b v acc ans n M ++ l) (fan b v acc ans n M) := fun l => Ent.sub (List.sublist_append_left _ _)
  exact ⟨fun h => ⟨_, sub _, 0, 0, false, rfl, rfl, .inl ⟨h, rfl⟩⟩, fun h => ⟨_, sub _, acc, _, true, rfl, rfl, .inr ⟨by omega, rfl, rfl, rfl⟩⟩⟩

/-- It rings no more: one said no, or nobody rings. -/
def overP (M : Nat → Int) (n : Int) : Prop := memb M n 3 = true ∨ memb M n 1 = false
theorem over_meets (b : Nat) (v : V1) (acc ans n : Int) (M : Nat → Int) (h0 : 0 ≤ n) (h1 : n ≤ 9223372036854775807) :
    Meets Try.prog 18 [.pointer (some ⟨b, 0, none⟩)] (fan b v acc ans n M)
      (fun r hs => ∃ x : Int, ∃ q : Bool, r = .tuple #[.int .u8 x, .bool q] ∧ hs = fan b v acc ans n M ∧ (q = true ↔ ans < 0 ∧ overP M n)) := by
  refine Meets.of_run (C := cx) (cnt := { i := 6, a := 1, v := 1, b := 1 }) (ρ := { iv := [0, 0, 0, acc, ans, n], av := [M], vv := [v], bv := [b] }) okT okFT okM Try.func18 (by constructor <;> rfl) (args := [.ptr 0 0]) (hp := fanHp) ?_
  rw [show runF cx 18 [.ptr 0 0] fanHp { i := 6, a := 1, v := 1, b := 1 } Try.f18 = fm_over from run_over, vc_over]
  unfold st_over
  refine ⟨fun h => ⟨0, false, rfl, rfl, by simp; omega⟩, fun h => ⟨_, index_meets v n 3 M h0 h1, ?_⟩⟩
  rintro r hs ⟨k3, rfl, rfl, hk3⟩
  refine ⟨k3, rfl, rfl, fun g3 => ⟨4, true, rfl, rfl, ?_⟩, fun g3 => ⟨_, index_meets v n 1 M h0 h1, ?_⟩⟩
  · simp only [overP, hk3.1 g3, true_or, and_true, true_iff]; omega
  rintro r hs ⟨k1, rfl, rfl, hk1⟩
  have n3 : memb M n 3 = false := by cases hm : memb M n 3 with | false => rfl | true => exact absurd (hk3.2 hm) g3
  refine ⟨k1, rfl, rfl, fun g1 => ⟨0, false, rfl, rfl, ?_⟩, fun g1 => ⟨_, index_meets v n 2 M h0 h1, ?_⟩⟩
  · simp [overP, n3, hk1.1 g1]
  rintro r hs ⟨k2, rfl, rfl, hk2⟩
  have n1 : memb M n 1 = false := by cases hm : memb M n 1 with | false => rfl | true => exact absurd (hk1.2 hm) g1
  refine ⟨k2, rfl, rfl, fun g2 => ⟨5, true, rfl, rfl, ?_⟩, fun g2 => ⟨3, true, rfl, rfl, ?_⟩⟩
  · simp only [overP, n1, or_true, and_true, true_iff]; omega
  · simp only [overP, n1, or_true, and_true, true_iff]; omega
end Go.RX.Rg
