/- Reading of moves, the document's side: a line's words az a move; printed by a program of ours (wip/tools). · strings.Builder of this program: WriteString, Len. -/
import Derived.Test.YtgaabcinjbjbgaaGreatDoorSuG
import Derived.Test.YtgaabcinjbjbgaaGreatDoorM39
import Derived.Test.YtgaabcinjbjbgaaGreatDoorM34
import Derived.Lib.AppendStr

namespace Go.RX.Su
open Go Go.RX Go.Proofs Go.RX.Ln
theorem leaf_d (k x0 : Int) (S1 : List UInt8) (K : BSet) (W : HP) (R : RO) (Q : Value → List HP → Prop) (hQ : ∀ x hs, OneQ K R W x hs → Q x hs) (hx : 0 ≤ x0) (hne : ¬ x0 = 2 → R = .inl 2)
    (heq : x0 = 2 → (S1.length ≤ 1000000) ∧ R = finR (fieldsR [100] [S1] (Mv.z k))) :
    Need (0 ≤ x0) (Fork (¬ (x0 = 2)) (Q (.tuple #[.agg #[.int .u8 0, .int .u8 0, .int .u8 0, .int .u8 0, .int .u8 0, .int .i64 0, .int .u64 0, .slice none 0 0], .int .i64 2]) [setHP K, W]) (∀ _ : Nat, Need (1 < x0) (∃ post, Meets Tryz.prog 65 [.string ⟨S1.toArray⟩] [] post ∧ ∀ x hs, post x hs → ∃ a1 : Int, ∃ b1 : Int, ∃ q1 : Bool, x = .tuple #[.agg #[.int .u8 a1, .int .u8 b1], .bool q1] ∧ hs = [] ∧ Fork (¬ (q1 = true)) (Q (.tuple #[.agg #[.int .u8 0, .int .u8 0, .int .u8 0, .int .u8 0, .int .u8 0, .int .i64 0, .int .u64 0, .slice none 0 0], .int .i64 5]) [setHP K, W]) (Q (.tuple #[.agg #[.int .u8 k, .int .u8 a1, .int .u8 b1, .int .u8 0, .int .u8 0, .int .i64 0, .int .u64 0, .slice none 0 0], .int .i64 0]) [setHP K, W])))) := by
  refine ⟨hx, fun _ => ⟨fun h => hQ _ _ (by rw [hne h]; exact ⟨rfl, rfl⟩), fun h => fun _ => ⟨by omega, fun _ => ?_⟩⟩⟩
  obtain ⟨l1, hR⟩ := heq (Classical.not_not.1 h)
  refine ⟨_, rdev_meets S1 (by omega), ?_⟩
  rintro x hs ⟨⟨a1, b1, _, _, _, _, rfl, hp1⟩, rfl⟩
  refine ⟨a1, b1, _, rfl, rfl, ?_⟩
  rcases h1 : devR S1 with _ | ⟨c1, d1⟩
  · have hR' : R = .inl 5 := by rw [hR]; simp [fieldsR, fieldR, finR, h1]
    exact ⟨fun _ => hQ _ _ (by rw [hR']; exact ⟨rfl, rfl⟩), fun h => (h fun e => Bool.false_ne_true e).elim⟩
  · obtain ⟨rfl, rfl⟩ := hp1 _ h1
    exact ⟨fun h => absurd rfl h, fun _ => hQ _ _ (by rw [hR]; simp only [fieldsR, fieldR, finR, List.headD_cons, List.tail_cons, Option.map_some, h1]; exact ⟨0, K, rfl, rfl, .inl ⟨rfl, rfl, rfl⟩⟩)⟩
theorem leaf_n (k x0 : Int) (S1 : List UInt8) (K : BSet) (W : HP) (R : RO) (Q : Value → List HP → Prop) (hQ : ∀ x hs, OneQ K R W x hs → Q x hs) (hx : 0 ≤ x0) (hne : ¬ x0 = 2 → R = .inl 2)
    (heq : x0 = 2 → (S1.length ≤ 1000000) ∧ R = finR (fieldsR [110] [S1] (Mv.z k))) :
    Need (0 ≤ x0) (Fork (¬ (x0 = 2)) (Q (.tuple #[.agg #[.int .u8 0, .int .u8 0, .int .u8 0, .int .u8 0, .int .u8 0, .int .i64 0, .int .u64 0, .slice none 0 0], .int .i64 2]) [setHP K, W]) (∀ _ : Nat, Need (1 < x0) (∃ post, Meets Tryz.prog 66 [.string ⟨S1.toArray⟩] [] post ∧ ∀ x hs, post x hs → ∃ a1 : Int, ∃ q1 : Bool, x = .tuple #[.int .i64 a1, .bool q1] ∧ hs = [] ∧ Fork (¬ (q1 = true)) (Q (.tuple #[.agg #[.int .u8 0, .int .u8 0, .int .u8 0, .int .u8 0, .int .u8 0, .int .i64 0, .int .u64 0, .slice none 0 0], .int .i64 5]) [setHP K, W]) (Q (.tuple #[.agg #[.int .u8 k, .int .u8 0, .int .u8 0, .int .u8 0, .int .u8 0, .int .i64 a1, .int .u64 0, .slice none 0 0], .int .i64 0]) [setHP K, W])))) := by
  refine ⟨hx, fun _ => ⟨fun h => hQ _ _ (by rw [hne h]; exact ⟨rfl, rfl⟩), fun h => fun _ => ⟨by omega, fun _ => ?_⟩⟩⟩
  obtain ⟨l1, hR⟩ := heq (Classical.not_not.1 h)
  refine ⟨_, rwhole_meets S1 (by omega), ?_⟩
  rintro x hs ⟨rfl, rfl⟩
  refine ⟨_, _, rfl, rfl, ?_⟩
  rcases h1 : wholeR S1 with _ | c1
  · have hR' : R = .inl 5 := by rw [hR]; simp [fieldsR, fieldR, finR, h1]
    exact ⟨fun _ => hQ _ _ (by rw [hR']; exact ⟨rfl, rfl⟩), fun h => (h fun e => Bool.false_ne_true e).elim⟩
  · exact ⟨fun h => absurd rfl h, fun _ => hQ _ _ (by rw [hR]; simp only [fieldsR, fieldR, finR, List.headD_cons, List.tail_cons, Option.map_some, h1]; exact ⟨0, K, rfl, rfl, .inl ⟨rfl, rfl, rfl⟩⟩)⟩
theorem leaf_nc (k x0 : Int) (S1 S2 : List UInt8) (K : BSet) (W : HP) (R : RO) (Q : Value → List HP → Prop) (hQ : ∀ x hs, OneQ K R W x hs → Q x hs) (hx : 0 ≤ x0) (hne : ¬ x0 = 3 → R = .inl 2)
    (heq : x0 = 3 → (S1.length ≤ 1000000 ∧ S2.length ≤ 1000000) ∧ R = finR (fieldsR [110, 99] [S1, S2] (Mv.z k))) :
    Need (0 ≤ x0) (Fork (¬ (x0 = 3)) (Q (.tuple #[.agg #[.int .u8 0, .int .u8 0, .int .u8 0, .int .u8 0, .int .u8 0, .int .i64 0, .int .u64 0, .slice none 0 0], .int .i64 2]) [setHP K, W]) (∀ _ : Nat, Need (1 < x0) (∃ post, Meets Tryz.prog 66 [.string ⟨S1.toArray⟩] [] post ∧ ∀ x hs, post x hs → ∃ a1 : Int, ∃ q1 : Bool, x = .tuple #[.int .i64 a1, .bool q1] ∧ hs = [] ∧ Fork (q1 = true) (Need (2 < x0) (∃ post, Meets Tryz.prog 67 [.string ⟨S2.toArray⟩, .int .u64 18446744073709551615] [] post ∧ ∀ x hs, post x hs → ∃ a2 : Int, ∃ q2 : Bool, x = .tuple #[.int .u64 a2, .bool q2] ∧ hs = [] ∧ Fork (¬ (q2 = true)) (Q (.tuple #[.agg #[.int .u8 0, .int .u8 0, .int .u8 0, .int .u8 0, .int .u8 0, .int .i64 0, .int .u64 0, .slice none 0 0], .int .i64 5]) [setHP K, W]) (Q (.tuple #[.agg #[.int .u8 k, .int .u8 0, .int .u8 0, .int .u8 0, .int .u8 0, .int .i64 a1, .int .u64 a2, .slice none 0 0], .int .i64 0]) [setHP K, W]))) (Q (.tuple #[.agg #[.int .u8 0, .int .u8 0, .int .u8 0, .int .u8 0, .int .u8 0, .int .i64 0, .int .u64 0, .slice none 0 0], .int .i64 5]) [setHP K, W])))) := by
  refine ⟨hx, fun _ => ⟨fun h => hQ _ _ (by rw [hne h]; exact ⟨rfl, rfl⟩), fun h => fun _ => ⟨by omega, fun _ => ?_⟩⟩⟩
  obtain ⟨⟨l1, l2⟩, hR⟩ := heq (Classical.not_not.1 h)
  refine ⟨_, rwhole_meets S1 (by omega), ?_⟩
  rintro x hs ⟨rfl, rfl⟩
  refine ⟨_, _, rfl, rfl, ?_⟩
  rcases h1 : wholeR S1 with _ | c1
  · have hR' : R = .inl 5 := by rw [hR]; simp [fieldsR, fieldR, finR, h1]
    exact ⟨fun h => absurd h Bool.false_ne_true, fun _ => hQ _ _ (by rw [hR']; exact ⟨rfl, rfl⟩)⟩
  · refine ⟨fun _ => ⟨by omega, fun _ => ?_⟩, fun h => absurd rfl h⟩
    refine ⟨_, rnum_meets S2 18446744073709551615 (by omega) (by omega), ?_⟩
    rintro x hs ⟨rfl, rfl⟩
    refine ⟨_, _, rfl, rfl, ?_⟩
    rcases h2 : numR 18446744073709551615 S2 with _ | c2
    · have hR' : R = .inl 5 := by rw [hR]; simp [fieldsR, fieldR, finR, h1, h2]
      exact ⟨fun _ => hQ _ _ (by rw [hR']; exact ⟨rfl, rfl⟩), fun h => (h fun e => Bool.false_ne_true e).elim⟩
    · exact ⟨fun h => absurd rfl h, fun _ => hQ _ _ (by rw [hR]; simp only [fieldsR, fieldR, finR, List.headD_cons, List.tail_cons, Option.map_some, h1, h2]; exact ⟨0, K, rfl, rfl, .inl ⟨rfl, rfl, rfl⟩⟩)⟩
theorem leaf_db (k x0 : Int) (S1 S2 : List UInt8) (K : BSet) (W : HP) (R : RO) (Q : Value → List HP → Prop) (hQ : ∀ x hs, OneQ K R W x hs → Q x hs) (hx : 0 ≤ x0) (hne : ¬ x0 = 3 → R = .inl 2)
    (heq : x0 = 3 → (S1.length ≤ 1000000 ∧ S2.length ≤ 1000000) ∧ R = finR (fieldsR [100, 98] [S1, S2] (Mv.z k))) :
    Need (0 ≤ x0) (Fork (¬ (x0 = 3)) (Q (.tuple #[.agg #[.int .u8 0, .int .u8 0, .int .u8 0, .int .u8 0, .int .u8 0, .int .i64 0, .int .u64 0, .slice none 0 0], .int .i64 2]) [setHP K, W]) (∀ _ : Nat, Need (1 < x0) (∃ post, Meets Tryz.prog 65 [.string ⟨S1.toArray⟩] [] post ∧ ∀ x hs, post x hs → ∃ a1 : Int, ∃ b1 : Int, ∃ q1 : Bool, x = .tuple #[.agg #[.int .u8 a1, .int .u8 b1], .bool q1] ∧ hs = [] ∧ Fork (q1 = true) (Need (2 < x0) (∃ post, Meets Tryz.prog 68 [.string ⟨S2.toArray⟩] [setHP K] post ∧ ∀ x hs, post x hs → ∃ a2 : Int, ∃ q2 : Bool, ∃ p2 : HP, x = .tuple #[bslV a2, .bool q2] ∧ hs = [p2] ∧ Fork (¬ (q2 = true)) (Q (.tuple #[.agg #[.int .u8 0, .int .u8 0, .int .u8 0, .int .u8 0, .int .u8 0, .int .i64 0, .int .u64 0, .slice none 0 0], .int .i64 5]) [p2, W]) (Q (.tuple #[.agg #[.int .u8 k, .int .u8 a1, .int .u8 b1, .int .u8 0, .int .u8 0, .int .i64 0, .int .u64 0, bslV a2], .int .i64 0]) [p2, W]))) (Q (.tuple #[.agg #[.int .u8 0, .int .u8 0, .int .u8 0, .int .u8 0, .int .u8 0, .int .i64 0, .int .u64 0, .slice none 0 0], .int .i64 5]) [setHP K, W])))) := by
  refine ⟨hx, fun _ => ⟨fun h => hQ _ _ (by rw [hne h]; exact ⟨rfl, rfl⟩), fun h => fun _ => ⟨by omega, fun _ => ?_⟩⟩⟩
  obtain ⟨⟨l1, l2⟩, hR⟩ := heq (Classical.not_not.1 h)
  refine ⟨_, rdev_meets S1 (by omega), ?_⟩
  rintro x hs ⟨⟨a1, b1, _, _, _, _, rfl, hp1⟩, rfl⟩
  refine ⟨a1, b1, _, rfl, rfl, ?_⟩
  rcases h1 : devR S1 with _ | ⟨c1, d1⟩
  · have hR' : R = .inl 5 := by rw [hR]; simp [fieldsR, fieldR, finR, h1]
    exact ⟨fun h => absurd h Bool.false_ne_true, fun _ => hQ _ _ (by rw [hR']; exact ⟨rfl, rfl⟩)⟩
  · obtain ⟨rfl, rfl⟩ := hp1 _ h1
    refine ⟨fun _ => ⟨by omega, fun _ => ?_⟩, fun h => absurd rfl h⟩
    refine ⟨_, runhex_set K S2 (by omega), ?_⟩
    intro x hs hx
    rcases h2 : unhexR S2 with _ | bs
    · rw [h2] at hx
      obtain ⟨rfl, rfl⟩ := hx
      refine ⟨0, false, _, rfl, rfl, ?_⟩
      have hR' : R = .inl 5 := by rw [hR]; simp [fieldsR, fieldR, finR, h1, h2]
      exact ⟨fun _ => hQ _ _ (by rw [hR']; exact ⟨rfl, rfl⟩), fun h => (h fun e => Bool.false_ne_true e).elim⟩
    · rw [h2] at hx
      obtain ⟨e, rfl, rfl⟩ := hx
      refine ⟨e, true, _, rfl, rfl, ?_⟩
      exact ⟨fun h => absurd rfl h, fun _ => hQ _ _ (by rw [hR]; simp only [fieldsR, fieldR, finR, List.headD_cons, List.tail_cons, Option.map_some, h1, h2]; exact ⟨e, (K ++ [(e, bs)]), rfl, rfl, .inr rfl⟩)⟩
theorem leaf_dp (k x0 : Int) (S1 S2 : List UInt8) (K : BSet) (W : HP) (R : RO) (Q : Value → List HP → Prop) (hQ : ∀ x hs, OneQ K R W x hs → Q x hs) (hx : 0 ≤ x0) (hne : ¬ x0 = 3 → R = .inl 2)
    (heq : x0 = 3 → (S1.length ≤ 1000000 ∧ S2.length ≤ 1000000) ∧ R = finR (fieldsR [100, 112] [S1, S2] (Mv.z k))) :
    Need (0 ≤ x0) (Fork (¬ (x0 = 3)) (Q (.tuple #[.agg #[.int .u8 0, .int .u8 0, .int .u8 0, .int .u8 0, .int .u8 0, .int .i64 0, .int .u64 0, .slice none 0 0], .int .i64 2]) [setHP K, W]) (∀ _ : Nat, Need (1 < x0) (∃ post, Meets Tryz.prog 65 [.string ⟨S1.toArray⟩] [] post ∧ ∀ x hs, post x hs → ∃ a1 : Int, ∃ b1 : Int, ∃ q1 : Bool, x = .tuple #[.agg #[.int .u8 a1, .int .u8 b1], .bool q1] ∧ hs = [] ∧ Fork (q1 = true) (Need (2 < x0) (∃ post, Meets Tryz.prog 65 [.string ⟨S2.toArray⟩] [] post ∧ ∀ x hs, post x hs → ∃ a2 : Int, ∃ b2 : Int, ∃ q2 : Bool, x = .tuple #[.agg #[.int .u8 a2, .int .u8 b2], .bool q2] ∧ hs = [] ∧ Fork (¬ (q2 = true)) (Q (.tuple #[.agg #[.int .u8 0, .int .u8 0, .int .u8 0, .int .u8 0, .int .u8 0, .int .i64 0, .int .u64 0, .slice none 0 0], .int .i64 5]) [setHP K, W]) (Q (.tuple #[.agg #[.int .u8 k, .int .u8 a1, .int .u8 b1, .int .u8 a2, .int .u8 b2, .int .i64 0, .int .u64 0, .slice none 0 0], .int .i64 0]) [setHP K, W]))) (Q (.tuple #[.agg #[.int .u8 0, .int .u8 0, .int .u8 0, .int .u8 0, .int .u8 0, .int .i64 0, .int .u64 0, .slice none 0 0], .int .i64 5]) [setHP K, W])))) := by
  refine ⟨hx, fun _ => ⟨fun h => hQ _ _ (by rw [hne h]; exact ⟨rfl, rfl⟩), fun h => fun _ => ⟨by omega, fun _ => ?_⟩⟩⟩
  obtain ⟨⟨l1, l2⟩, hR⟩ := heq (Classical.not_not.1 h)
  refine ⟨_, rdev_meets S1 (by omega), ?_⟩
  rintro x hs ⟨⟨a1, b1, _, _, _, _, rfl, hp1⟩, rfl⟩
  refine ⟨a1, b1, _, rfl, rfl, ?_⟩
  rcases h1 : devR S1 with _ | ⟨c1, d1⟩
  · have hR' : R = .inl 5 := by rw [hR]; simp [fieldsR, fieldR, finR, h1]
    exact ⟨fun h => absurd h Bool.false_ne_true, fun _ => hQ _ _ (by rw [hR']; exact ⟨rfl, rfl⟩)⟩
  · obtain ⟨rfl, rfl⟩ := hp1 _ h1
    refine ⟨fun _ => ⟨by omega, fun _ => ?_⟩, fun h => absurd rfl h⟩
    refine ⟨_, rdev_meets S2 (by omega), ?_⟩
    rintro x hs ⟨⟨a2, b2, _, _, _, _, rfl, hp2⟩, rfl⟩
    refine ⟨a2, b2, _, rfl, rfl, ?_⟩
    rcases h2 : devR S2 with _ | ⟨c2, d2⟩
    · have hR' : R = .inl 5 := by rw [hR]; simp [fieldsR, fieldR, finR, h1, h2]
      exact ⟨fun _ => hQ _ _ (by rw [hR']; exact ⟨rfl, rfl⟩), fun h => (h fun e => Bool.false_ne_true e).elim⟩
    · obtain ⟨rfl, rfl⟩ := hp2 _ h2
      exact ⟨fun h => absurd rfl h, fun _ => hQ _ _ (by rw [hR]; simp only [fieldsR, fieldR, finR, List.headD_cons, List.tail_cons, Option.map_some, h1, h2]; exact ⟨0, K, rfl, rfl, .inl ⟨rfl, rfl, rfl⟩⟩)⟩
theorem leaf_dn (k x0 : Int) (S1 S2 : List UInt8) (K : BSet) (W : HP) (R : RO) (Q : Value → List HP → Prop) (hQ : ∀ x hs, OneQ K R W x hs → Q x hs) (hx : 0 ≤ x0) (hne : ¬ x0 = 3 → R = .inl 2)
    (heq : x0 = 3 → (S1.length ≤ 1000000 ∧ S2.length ≤ 1000000) ∧ R = finR (fieldsR [100, 110] [S1, S2] (Mv.z k))) :
    Need (0 ≤ x0) (Fork (¬ (x0 = 3)) (Q (.tuple #[.agg #[.int .u8 0, .int .u8 0, .int .u8 0, .int .u8 0, .int .u8 0, .int .i64 0, .int .u64 0, .slice none 0 0], .int .i64 2]) [setHP K, W]) (∀ _ : Nat, Need (1 < x0) (∃ post, Meets Tryz.prog 65 [.string ⟨S1.toArray⟩] [] post ∧ ∀ x hs, post x hs → ∃ a1 : Int, ∃ b1 : Int, ∃ q1 : Bool, x = .tuple #[.agg #[.int .u8 a1, .int .u8 b1], .bool q1] ∧ hs = [] ∧ Fork (q1 = true) (Need (2 < x0) (∃ post, Meets Tryz.prog 66 [.string ⟨S2.toArray⟩] [] post ∧ ∀ x hs, post x hs → ∃ a2 : Int, ∃ q2 : Bool, x = .tuple #[.int .i64 a2, .bool q2] ∧ hs = [] ∧ Fork (¬ (q2 = true)) (Q (.tuple #[.agg #[.int .u8 0, .int .u8 0, .int .u8 0, .int .u8 0, .int .u8 0, .int .i64 0, .int .u64 0, .slice none 0 0], .int .i64 5]) [setHP K, W]) (Q (.tuple #[.agg #[.int .u8 k, .int .u8 a1, .int .u8 b1, .int .u8 0, .int .u8 0, .int .i64 a2, .int .u64 0, .slice none 0 0], .int .i64 0]) [setHP K, W]))) (Q (.tuple #[.agg #[.int .u8 0, .int .u8 0, .int .u8 0, .int .u8 0, .int .u8 0, .int .i64 0, .int .u64 0, .slice none 0 0], .int .i64 5]) [setHP K, W])))) := by
  refine ⟨hx, fun _ => ⟨fun h => hQ _ _ (by rw [hne h]; exact ⟨rfl, rfl⟩), fun h => fun _ => ⟨by omega, fun _ => ?_⟩⟩⟩
  obtain ⟨⟨l1, l2⟩, hR⟩ := heq (Classical.not_not.1 h)
  refine ⟨_, rdev_meets S1 (by omega), ?_⟩
  rintro x hs ⟨⟨a1, b1, _, _, _, _, rfl, hp1⟩, rfl⟩
  refine ⟨a1, b1, _, rfl, rfl, ?_⟩
  rcases h1 : devR S1 with _ | ⟨c1, d1⟩
  · have hR' : R = .inl 5 := by rw [hR]; simp [fieldsR, fieldR, finR, h1]
    exact ⟨fun h => absurd h Bool.false_ne_true, fun _ => hQ _ _ (by rw [hR']; exact ⟨rfl, rfl⟩)⟩
  · obtain ⟨rfl, rfl⟩ := hp1 _ h1
    refine ⟨fun _ => ⟨by omega, fun _ => ?_⟩, fun h => absurd rfl h⟩
    refine ⟨_, rwhole_meets S2 (by omega), ?_⟩
    rintro x hs ⟨rfl, rfl⟩
    refine ⟨_, _, rfl, rfl, ?_⟩
    rcases h2 : wholeR S2 with _ | c2
    · have hR' : R = .inl 5 := by rw [hR]; simp [fieldsR, fieldR, finR, h1, h2]
      exact ⟨fun _ => hQ _ _ (by rw [hR']; exact ⟨rfl, rfl⟩), fun h => (h fun e => Bool.false_ne_true e).elim⟩
    · exact ⟨fun h => absurd rfl h, fun _ => hQ _ _ (by rw [hR]; simp only [fieldsR, fieldR, finR, List.headD_cons, List.tail_cons, Option.map_some, h1, h2]; exact ⟨0, K, rfl, rfl, .inl ⟨rfl, rfl, rfl⟩⟩)⟩
def tabO (xs : List (List UInt8)) : Nat → Int := fun k => rowS (xs.getD (split2 k).1 []) (split2 k).2
theorem tabO_at (xs : List (List UInt8)) (j : Nat) : strD (at2F (tabO xs) j) = xs.getD j [] := by
  have : at2F (tabO xs) j = rowS (xs.getD j []) := by
    funext k
    simp only [at2F, tabO, split2_pair]
  rw [this, strD_rowS]
theorem ws2 (ws : List (List UInt8)) (h : (ws.length : Int) = 2) : ws.tail = [ws.getD 1 []] := by
  rcases ws with _ | ⟨a, _ | ⟨b, _ | ⟨c, r⟩⟩⟩ <;> simp at h ⊢
  omega
theorem ws3 (ws : List (List UInt8)) (h : (ws.length : Int) = 3) : ws.tail = [ws.getD 1 [], ws.getD 2 []] := by
  rcases ws with _ | ⟨a, _ | ⟨b, _ | ⟨c, _ | ⟨d, r⟩⟩⟩⟩ <;> simp at h ⊢
  omega
theorem rone_meets (K : BSet) (v : V1) (ws : List (List UInt8)) (hn : 0 < ws.length) (hl : ∀ w ∈ ws, w.length ≤ 1000000) :
    Meets Tryz.prog 31 [v.v] [setHP K, sliHP true 9 1 v.v ws.length (ws.map strV)] (OneQ K (oneR ws) (sliHP true 9 1 v.v ws.length (ws.map strV))) := by
  have ht := tab_strs ws (tabO ws) fun j _ => tabO_at ws j
  have hl' : ∀ j, (ws.getD j []).length ≤ 1000000 := by
    intro j
    rw [List.getD_eq_getElem?_getD]
    rcases h : ws[j]? with _ | w
    · simp
    · exact hl w (List.mem_of_getElem? h)
  have e0 : [setHP K, sliHP true 9 1 v.v ws.length (ws.map strV)] = [Ck.abs 0, Ck.sli true 0 9 1 (.var 0) [⟨.str, 1, .avar 0⟩]].map (Ck.den { iv := [(ws.length : Int)], av := [tabO ws], vv := [v], pv := [setHP K] }) := by
    rw [← ht]
    rfl
  rw [e0]
  have h := Meets.of_runE (C := cxO) (cnt := { i := 1, a := 1, p := 1, v := 1 }) (ρ := { iv := [(ws.length : Int)], av := [tabO ws], vv := [v], pv := [setHP K] }) okT okFT okM Tryz.func31 (by constructor <;> rfl)
    (Post := fun x hs => OneQ K (oneR ws) (sliHP true 9 1 v.v ws.length (ws.map strV)) x (hs.take 2)) (args := [.vv 0]) (hp := [.abs 0, .sli true 0 9 1 (.var 0) [⟨.str, 1, .avar 0⟩]]) run_rone
    (vc_rone Tryz.prog (OneQ K (oneR ws) (sliHP true 9 1 v.v ws.length (ws.map strV))) ws.length (tabO ws) v (setHP K) (fun _ => LC.none)) ?_
  · exact Meets.post h fun x hs hq => ⟨hs.take 2, Ent.sub (List.take_sublist 2 hs), hq⟩
  unfold st_rone
  rw [Int.toNat_natCast, ht, tabO_at, tabO_at, tabO_at]
  rw [show strD (rowLF [4, 100, 105, 97, 108]) = [100, 105, 97, 108] from by decide]
  rw [show strD (rowLF [6, 97, 110, 115, 119, 101, 114]) = [97, 110, 115, 119, 101, 114] from by decide]
  rw [show strD (rowLF [7, 100, 101, 99, 108, 105, 110, 101]) = [100, 101, 99, 108, 105, 110, 101] from by decide]
  rw [show strD (rowLF [4, 104, 97, 110, 103]) = [104, 97, 110, 103] from by decide]
  rw [show strD (rowLF [4, 116, 105, 99, 107]) = [116, 105, 99, 107] from by decide]
  rw [show strD (rowLF [7, 100, 101, 108, 105, 118, 101, 114]) = [100, 101, 108, 105, 118, 101, 114] from by decide]
  rw [show strD (rowLF [4, 100, 114, 111, 112]) = [100, 114, 111, 112] from by decide]
  rw [show strD (rowLF [6, 100, 111, 117, 98, 108, 101]) = [100, 111, 117, 98, 108, 101] from by decide]
  rw [show strD (rowLF [6, 116, 97, 109, 112, 101, 114]) = [116, 97, 109, 112, 101, 114] from by decide]
  rw [show strD (rowLF [6, 105, 110, 106, 101, 99, 116]) = [105, 110, 106, 101, 99, 116] from by decide]
  rw [show strD (rowLF [6, 99, 114, 101, 97, 116, 101]) = [99, 114, 101, 97, 116, 101] from by decide]
  rw [show strD (rowLF [3, 97, 100, 100]) = [97, 100, 100] from by decide]
  rw [show strD (rowLF [4, 107, 105, 99, 107]) = [107, 105, 99, 107] from by decide]
  rw [show strD (rowLF [5, 108, 101, 97, 118, 101]) = [108, 101, 97, 118, 101] from by decide]
  rw [show strD (rowLF [5, 102, 114, 97, 109, 101]) = [102, 114, 97, 109, 101] from by decide]
  refine fun _ _ _ => ⟨by omega, fun _ => ?_⟩
  have hR : oneR ws = oneG formsL ws := rfl
  unfold formsL at hR
  generalize oneR ws = R at hR ⊢
  refine ⟨fun h => ?_, fun h => leaf_dn 1 _ _ _ K _ _ _ (fun _ _ h => h) (by omega) (fun hn => by rw [hR, oneG, if_pos (Classical.not_not.1 h), if_pos (by simp only [List.length_cons, List.length_nil]; omega)]) (fun hn => ⟨⟨hl' 1, hl' 2⟩, by rw [hR, oneG, if_pos (Classical.not_not.1 h), if_neg (by simp only [List.length_cons, List.length_nil]; omega), ws3 ws hn]⟩)⟩
  rw [oneG, if_neg h] at hR
  intro _ _
  refine ⟨fun h => ?_, fun h => leaf_d 2 _ _ K _ _ _ (fun _ _ h => h) (by omega) (fun hn => by rw [hR, oneG, if_pos (Classical.not_not.1 h), if_pos (by simp only [List.length_cons, List.length_nil]; omega)]) (fun hn => ⟨hl' 1, by rw [hR, oneG, if_pos (Classical.not_not.1 h), if_neg (by simp only [List.length_cons, List.length_nil]; omega), ws2 ws hn]⟩)⟩
  rw [oneG, if_neg h] at hR
  intro _ _
  refine ⟨fun h => ?_, fun h => leaf_d 3 _ _ K _ _ _ (fun _ _ h => h) (by omega) (fun hn => by rw [hR, oneG, if_pos (Classical.not_not.1 h), if_pos (by simp only [List.length_cons, List.length_nil]; omega)]) (fun hn => ⟨hl' 1, by rw [hR, oneG, if_pos (Classical.not_not.1 h), if_neg (by simp only [List.length_cons, List.length_nil]; omega), ws2 ws hn]⟩)⟩
  rw [oneG, if_neg h] at hR
  intro _ _
  refine ⟨fun h => ?_, fun h => leaf_d 4 _ _ K _ _ _ (fun _ _ h => h) (by omega) (fun hn => by rw [hR, oneG, if_pos (Classical.not_not.1 h), if_pos (by simp only [List.length_cons, List.length_nil]; omega)]) (fun hn => ⟨hl' 1, by rw [hR, oneG, if_pos (Classical.not_not.1 h), if_neg (by simp only [List.length_cons, List.length_nil]; omega), ws2 ws hn]⟩)⟩
  rw [oneG, if_neg h] at hR
  intro _ _
  refine ⟨fun h => ?_, fun h => leaf_n 5 _ _ K _ _ _ (fun _ _ h => h) (by omega) (fun hn => by rw [hR, oneG, if_pos (Classical.not_not.1 h), if_pos (by simp only [List.length_cons, List.length_nil]; omega)]) (fun hn => ⟨hl' 1, by rw [hR, oneG, if_pos (Classical.not_not.1 h), if_neg (by simp only [List.length_cons, List.length_nil]; omega), ws2 ws hn]⟩)⟩
  rw [oneG, if_neg h] at hR
  intro _ _
  refine ⟨fun h => ?_, fun h => leaf_n 6 _ _ K _ _ _ (fun _ _ h => h) (by omega) (fun hn => by rw [hR, oneG, if_pos (Classical.not_not.1 h), if_pos (by simp only [List.length_cons, List.length_nil]; omega)]) (fun hn => ⟨hl' 1, by rw [hR, oneG, if_pos (Classical.not_not.1 h), if_neg (by simp only [List.length_cons, List.length_nil]; omega), ws2 ws hn]⟩)⟩
  rw [oneG, if_neg h] at hR
  intro _ _
  refine ⟨fun h => ?_, fun h => leaf_n 7 _ _ K _ _ _ (fun _ _ h => h) (by omega) (fun hn => by rw [hR, oneG, if_pos (Classical.not_not.1 h), if_pos (by simp only [List.length_cons, List.length_nil]; omega)]) (fun hn => ⟨hl' 1, by rw [hR, oneG, if_pos (Classical.not_not.1 h), if_neg (by simp only [List.length_cons, List.length_nil]; omega), ws2 ws hn]⟩)⟩
  rw [oneG, if_neg h] at hR
  intro _ _
  refine ⟨fun h => ?_, fun h => leaf_n 8 _ _ K _ _ _ (fun _ _ h => h) (by omega) (fun hn => by rw [hR, oneG, if_pos (Classical.not_not.1 h), if_pos (by simp only [List.length_cons, List.length_nil]; omega)]) (fun hn => ⟨hl' 1, by rw [hR, oneG, if_pos (Classical.not_not.1 h), if_neg (by simp only [List.length_cons, List.length_nil]; omega), ws2 ws hn]⟩)⟩
  rw [oneG, if_neg h] at hR
  intro _ _
  refine ⟨fun h => ?_, fun h => leaf_nc 9 _ _ _ K _ _ _ (fun _ _ h => h) (by omega) (fun hn => by rw [hR, oneG, if_pos (Classical.not_not.1 h), if_pos (by simp only [List.length_cons, List.length_nil]; omega)]) (fun hn => ⟨⟨hl' 1, hl' 2⟩, by rw [hR, oneG, if_pos (Classical.not_not.1 h), if_neg (by simp only [List.length_cons, List.length_nil]; omega), ws3 ws hn]⟩)⟩
  rw [oneG, if_neg h] at hR
  intro _ _
  refine ⟨fun h => ?_, fun h => leaf_db 10 _ _ _ K _ _ _ (fun _ _ h => h) (by omega) (fun hn => by rw [hR, oneG, if_pos (Classical.not_not.1 h), if_pos (by simp only [List.length_cons, List.length_nil]; omega)]) (fun hn => ⟨⟨hl' 1, hl' 2⟩, by rw [hR, oneG, if_pos (Classical.not_not.1 h), if_neg (by simp only [List.length_cons, List.length_nil]; omega), ws3 ws hn]⟩)⟩
  rw [oneG, if_neg h] at hR
  intro _ _
  refine ⟨fun h => ?_, fun h => leaf_d 11 _ _ K _ _ _ (fun _ _ h => h) (by omega) (fun hn => by rw [hR, oneG, if_pos (Classical.not_not.1 h), if_pos (by simp only [List.length_cons, List.length_nil]; omega)]) (fun hn => ⟨hl' 1, by rw [hR, oneG, if_pos (Classical.not_not.1 h), if_neg (by simp only [List.length_cons, List.length_nil]; omega), ws2 ws hn]⟩)⟩
  rw [oneG, if_neg h] at hR
  intro _ _
  refine ⟨fun h => ?_, fun h => leaf_dp 12 _ _ _ K _ _ _ (fun _ _ h => h) (by omega) (fun hn => by rw [hR, oneG, if_pos (Classical.not_not.1 h), if_pos (by simp only [List.length_cons, List.length_nil]; omega)]) (fun hn => ⟨⟨hl' 1, hl' 2⟩, by rw [hR, oneG, if_pos (Classical.not_not.1 h), if_neg (by simp only [List.length_cons, List.length_nil]; omega), ws3 ws hn]⟩)⟩
  rw [oneG, if_neg h] at hR
  intro _ _
  refine ⟨fun h => ?_, fun h => leaf_dp 13 _ _ _ K _ _ _ (fun _ _ h => h) (by omega) (fun hn => by rw [hR, oneG, if_pos (Classical.not_not.1 h), if_pos (by simp only [List.length_cons, List.length_nil]; omega)]) (fun hn => ⟨⟨hl' 1, hl' 2⟩, by rw [hR, oneG, if_pos (Classical.not_not.1 h), if_neg (by simp only [List.length_cons, List.length_nil]; omega), ws3 ws hn]⟩)⟩
  rw [oneG, if_neg h] at hR
  intro _ _
  refine ⟨fun h => ?_, fun h => leaf_d 14 _ _ K _ _ _ (fun _ _ h => h) (by omega) (fun hn => by rw [hR, oneG, if_pos (Classical.not_not.1 h), if_pos (by simp only [List.length_cons, List.length_nil]; omega)]) (fun hn => ⟨hl' 1, by rw [hR, oneG, if_pos (Classical.not_not.1 h), if_neg (by simp only [List.length_cons, List.length_nil]; omega), ws2 ws hn]⟩)⟩
  rw [oneG, if_neg h] at hR
  intro _ _
  refine ⟨fun h => ?_, fun h => leaf_db 15 _ _ _ K _ _ _ (fun _ _ h => h) (by omega) (fun hn => by rw [hR, oneG, if_pos (Classical.not_not.1 h), if_pos (by simp only [List.length_cons, List.length_nil]; omega)]) (fun hn => ⟨⟨hl' 1, hl' 2⟩, by rw [hR, oneG, if_pos (Classical.not_not.1 h), if_neg (by simp only [List.length_cons, List.length_nil]; omega), ws3 ws hn]⟩)⟩
  rw [oneG, if_neg h] at hR
  rw [hR, oneG]
  exact ⟨rfl, rfl⟩
end Go.RX.Su

namespace Go.RX.Sb
open Go.Shelf Go.RowKit Go.Proofs
/-- A string's bytes behind owned ones: the bytes are where they were, or in a new block. -/
theorem append_str {P : Program} (w : World) (t u ty e : TypeId) (i : TypeInfo) (ht : P.underlying t = some (.slice e)) (hu : P.underlying u = some .string) (hi : P.info? e = some i) (hz : i.zero = some (.int .u8 0)) (hsize : i.size = 1) (hby : i.bytes = 1)
    (v : Value) (n : Nat) (xs : List Value) (hown : w.ownsRow 0 e 1 v n xs) (s : ByteArray) (h63 : n + s.size ≤ maxLen) (hbytes : n + s.size ≤ 140737488355328) :
    ∃ v' w', (Builtin.append_ #[t, u] ty #[v, .string s]).run P w = .ok v' w' ∧ w'.ownsRow 0 e 1 v' (n + s.size) (xs ++ Lib.strCells s) ∧ w.grownBy w' v.ownBlock ∧ ∀ k, v'.ownBlock = some k → v.ownBlock = some k ∨ w.heap.size ≤ k := by
  obtain ⟨v', w', hr, h2, h3, _⟩ := Lib.run_append_own_string (P := P) w 0 t u ty e i ht hu hi hz hsize hby v n xs hown s h63 hbytes (Nat.zero_le _)
  refine ⟨v', w', hr, h2, h3, ?_⟩
  have hxl : xs.length = n := by simpa using hown.1
  rcases hown.2 with ⟨rfl, rfl⟩ | ⟨g, cap, cur, rfl, hbg, hg, hnc, hcm, hcs, htake⟩
  · have hx : xs = [] := List.eq_nil_of_length_eq_zero hxl
    subst hx
    obtain ⟨v2, w2, hr2, k2, _, _⟩ := Lib.run_append_own_string (P := P) w w.heap.size t u ty e i ht hu hi hz hsize hby (.slice none 0 0) 0 [] (World.ownsRow_nil w _ e 1) s h63 hbytes (Nat.le_refl _)
    rw [hr] at hr2
    cases hr2
    intro k hk
    rcases k2.2 with ⟨rfl, _⟩ | ⟨g, cap, cur, rfl, hB, _⟩
    · simp [Value.ownBlock] at hk
    · simp only [Value.ownBlock, Option.some.injEq] at hk
      subst hk
      exact .inr hB
  · have hcs' : cur.size = cap := by simpa using hcs
    by_cases hroom : n + s.size ≤ cap
    · have hr2 := Lib.run_append_room_string (P := P) w t u ty e i ht hu hi hsize g n cap cur hg s hroom (by omega)
      rw [hr] at hr2
      cases hr2
      intro k hk
      exact .inl (by simpa [Value.ownBlock] using hk)
    · have holds : ∀ j u, xs[j]? = some u → w.cell? ((⟨g, 0, none⟩ : Addr).add j) = some u := hown.cells (g := g) rfl
      have hm : n + s.size ≤ 9223372036854775807 := by omega
      have hr2 := Lib.run_append_grow_string (P := P) w t u ty e i (.int .u8 0) ht hu hi hz ⟨g, 0, none⟩ n cap xs (by rw [hsize]; simpa using hxl) holds s (by omega) (by omega) (by rw [hby]; exact growslice_fits (by omega) (by omega))
      rw [hr] at hr2
      cases hr2
      intro k hk
      simp only [Value.ownBlock, Option.some.injEq] at hk
      exact .inr (by omega)
theorem wpList_append_str {P : Program} {w : World} {ops : Array Oper} {rest : List Oper} {o : Oper} {a : Act} {Q : Exit → Act → World → Prop} (hgd : o.guard = none) (sl x : Operand) (t u : TypeId)
    (ho : o.op = .call { callee := .builtin .append, args := #[sl, x], argTypes := #[t, u] }) (e : TypeId) (i : TypeInfo) (ht : P.underlying t = some (.slice e)) (hu : P.underlying u = some .string) (hi : P.info? e = some i) (hz : i.zero = some (.int .u8 0)) (hsize : i.size = 1) (hby : i.bytes = 1)
    (v : Value) (n : Nat) (xs : List Value) (hs : a.eval sl = v) (hown : w.ownsRow 0 e 1 v n xs) (s : ByteArray) (hx : a.eval x = .string s) (h63 : n + s.size ≤ maxLen) (hbytes : n + s.size ≤ 140737488355328)
    (h : ∀ v' w', w'.ownsRow 0 e 1 v' (n + s.size) (xs ++ Lib.strCells s) → w.grownBy w' v.ownBlock → (∀ k, v'.ownBlock = some k → v.ownBlock = some k ∨ w.heap.size ≤ k) → wpList P ops Q rest (a.put o.dst v') w') : wpList P ops Q (o :: rest) a w := by
  refine wpList_plain hgd fun K hK => ?_
  obtain ⟨v', w', hr, h2, h3, h4⟩ := append_str (P := P) w t u o.type e i ht hu hi hz hsize hby v n xs hown s h63 hbytes
  unfold Oper.wp execOp
  simp only [ho, resolve, invoke, builtin, Sem.run_bind, Sem.run_pure, Result.andThen_ok, List.map_toArray, List.map_cons, List.map_nil, hs, hx, hr]
  exact hK _ _ (h v' w' h2 h3 h4)
set_option maxHeartbeats 2000000 in
set_option maxRecDepth 100000 in
theorem writeString (b : Nat) (bs : List Value) (s : ByteArray) (w : World) (S : Nat → Prop) (h : (bldHP b 93 5 bs).p w S) (hlen : bs.length + s.size ≤ 140737488355328) :
    Calls Tryz.prog 45 #[.pointer (some ⟨b, 0, none⟩), .string s] w fun e w' => e = .returned (.tuple #[.int .i64 s.size, .nilIface]) ∧ ∃ S', (bldHP b 93 5 (bs ++ Lib.strCells s)).p w' S' ∧ Kept w w' S S' := by
  obtain ⟨pv, v, hb0, hpv, hown0, hne, hS⟩ := h
  have hlt0 : b < w.heap.size := by
    rcases Nat.lt_or_ge b w.heap.size with h' | h'
    · exact h'
    · simp [Array.getElem?_eq_none h'] at hb0
  obtain ⟨i0, hi, hz0, hz1, hz2⟩ := info_parts infoByte
  have hcc : Calls Tryz.prog 73 #[.pointer (some ⟨b, 0, none⟩)] w fun e w1 => e = .returned (.tuple #[]) ∧ (w1.heap[b]? = some (.cells #[.pointer (some ⟨b, 0, none⟩), v] 93 (0, 0)) ∧ Same w w1 ∧ w1.heap.size ≤ w.heap.size ∧ ∀ k, k ≠ b → w1.heap[k]? = w.heap[k]?) := by
    rcases hpv with rfl | rfl
    · refine (copyCheck_fresh b w (by rw [Lib.cell_of_heap hb0]; rfl) (by simp [World.shape?, hb0]) (by simp [World.frozen?, hb0])).mono ?_
      rintro e w1 ⟨rfl, rfl⟩
      exact ⟨rfl, by simp [World.setCell, Array.getElem?_modify, hb0], setCell_same _ _ _, Nat.le_of_eq (setCell_size _ _ _), fun k hk => Below.heap_setCell _ _ _ _ (fun e => hk (by simp [e]))⟩
    · refine (copyCheck_used b w (by rw [Lib.cell_of_heap hb0]; rfl)).mono ?_
      rintro e w1 ⟨rfl, rfl⟩
      exact ⟨rfl, hb0, Same.refl _, Nat.le_refl _, fun _ _ => rfl⟩
  go_enter Tryz.func45, Tryz.ntmps45
  go_wp2_with (go_at_call 73; refine hcc.mono ?_)
  rintro e w1 ⟨rfl, hbk, hsm1, hsz1, hk1⟩
  have hsz2 := hsm1.size
  have hown : w1.ownsRow 0 5 1 v bs.length bs := by
    refine ⟨hown0.1, ?_⟩
    rcases hown0.2 with hn | ⟨g, cap, cur, rfl, hB, hg, r⟩
    · exact .inl hn
    · exact .inr ⟨g, cap, cur, rfl, hB, (hk1 g (fun e => hne (by simp [Value.ownBlock, e]))).trans hg, r⟩
  have c0 : w1.cell? ⟨b, 0, none⟩ = some (.pointer (some ⟨b, 0, none⟩)) := by rw [Lib.cell_of_heap hbk]; rfl
  have c1 : w1.cell? ⟨b, 1, none⟩ = some v := by rw [Lib.cell_of_heap hbk]; rfl
  go_wp2_with (at_builtin; go_loud (refine wpList_append_str rfl _ _ 37 9 rfl 5 i0 Tryz.underlying37 Tryz.underlying9 hi hz0 hz1 hz2 _ _ _ rfl hown s rfl ?c3 ?c4 ?_))
  case c3 => unfold maxLen; omega
  case c4 => omega
  intro v' w2 hown' hgrow hblk
  have hlt : b < w1.heap.size := by omega
  have hb2 : w2.heap[b]? = some (.cells #[.pointer (some ⟨b, 0, none⟩), v] 93 (0, 0)) := by
    rw [hgrow.block b hlt (fun e => hne e.symm)]
    exact hbk
  have d0 : w2.cell? ⟨b, 0, none⟩ = some (.pointer (some ⟨b, 0, none⟩)) := by rw [Lib.cell_of_heap hb2]; rfl
  have d1 : w2.cell? ⟨b, 1, none⟩ = some v := by rw [Lib.cell_of_heap hb2]; rfl
  have f1 : w2.frozen? ⟨b, 1, none⟩ = false := Lib.frozen_of_heap hb2 1
  obtain ⟨ao, m', cap, rfl⟩ : ∃ ao m' cap, v' = .slice ao m' cap := by
    rcases hown'.2 with ⟨hv, _⟩ | ⟨g, cap, cur, hv, _⟩
    · exact ⟨_, _, _, hv⟩
    · exact ⟨_, _, _, hv⟩
  go_wp2
  go_ret2
  have hgs : w.heap.size ≤ w2.heap.size := by have := hgrow.size; omega
  have hput := Lib.BuilderAt.put (T := 93) (e := 5) (Nat.zero_le b) hb2 (bs' := bs ++ Lib.strCells s) (by simpa [Lib.strCells_length] using hown') (by decide)
  obtain ⟨_, v2, q1, q2, q3⟩ := hput
  have hv2 : v2 = .slice ao m' cap := by
    have : (w2.setCell ⟨b, 1, none⟩ (.slice ao m' cap)).heap[b]? = some (.cells #[.pointer (some ⟨b, 0, none⟩), .slice ao m' cap] 93 (0, 0)) := by
      simp [World.setCell, Array.getElem?_modify, hb2]
    rw [this] at q1
    simp at q1
    exact q1.symm
  subst hv2
  refine ⟨rfl, fun k => k = b ∨ (Value.slice ao m' cap).ownBlock = some k, ⟨_, _, q1, .inr rfl, q2, q3, fun k => Iff.rfl⟩, ⟨?_, ?_, ?_⟩⟩
  · exact ⟨hgrow.os.trans hsm1.os, hgrow.tape.trans hsm1.tape, hgrow.output.trans hsm1.output, by rw [setCell_size]; exact hgs⟩
  · intro k hk hnS
    have hnS := mt (hS k).2 hnS
    rw [Below.heap_setCell _ _ _ _ (fun e => hnS (.inl e)), hgrow.block k (by omega) (fun e => hnS (.inr e.symm)), hk1 k (fun e => hnS (.inl e))]
  · intro k hk
    rcases hk with rfl | hk
    · exact .inl ((hS _).2 (.inl rfl))
    · rcases hblk k hk with hb' | hb'
      · exact .inl ((hS _).2 (.inr hb'))
      · right
        rw [setCell_size]
        refine ⟨by omega, ?_⟩
        rcases hown'.2 with ⟨hc, _⟩ | ⟨g', cap', cur, hv', _, hg, _⟩
        · cases hc
          simp [Value.ownBlock] at hk
        · cases hv'
          simp only [Value.ownBlock, Option.some.injEq] at hk
          subst hk
          rcases Nat.lt_or_ge g' w2.heap.size with h' | h'
          · exact h'
          · simp [Array.getElem?_eq_none h'] at hg
end Go.RX.Sb
