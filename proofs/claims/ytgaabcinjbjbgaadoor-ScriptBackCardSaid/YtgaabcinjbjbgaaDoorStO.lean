/- Reading of moves, the program's side: a line's words az a move; printed by a program of ours (wip/tools). -/
import Derived.Test.YtgaabcinjbjbgaaDoorStH
import Derived.Test.YtgaabcinjbjbgaaDoorStW
import Derived.Test.YtgaabcinjbjbgaaDoorM43
import Derived.Test.YtgaabcinjbjbgaaDoorM46
import Derived.Test.YtgaabcinjbjbgaaDoorM38
import Derived.Test.YtgaabcinjbjbgaaDoorScOk

namespace Go.RX.St
open Go Go.RX Go.Proofs Go.RX.Ln Go.RX.Su
variable {n0 : Nat} {w0 : World}
def OneP (K : BSet) (r : RO) (L W : HP) (x : Value) (hs : List HP) : Prop :=
  match r with
  | .inr m => ∃ e K', x = .tuple #[mvV m e, .int .i64 0] ∧ hs = [L, setHP K', W] ∧ Grow K K' e m.b
  | .inl z => x = .tuple #[mvV (Mv.z 0) 0, .int .i64 z] ∧ hs = [L, setHP K, W]
theorem leaf_d (hL : Laid0 w0 n0) (k x0 : Int) (S1 : List UInt8) (K : BSet) (W : HP) (R : RO) (Q : Value → List HP → Prop) (hQ : ∀ x hs, OneP K R (keptHP n0 w0) W x hs → Q x hs) (hx3 : x0 = 2)
    (heq : (S1.length ≤ 1000000) ∧ R = finR (fieldsR [100] [S1] (Mv.z k))) :
    ∀ _ : Nat, ∀ _ : Nat, Need (1 < x0) (∃ post, Meets Tryd.prog 50 [.string ⟨S1.toArray⟩] [keptHP n0 w0] post ∧ ∀ x hs, post x hs → ∃ a1 : Int, ∃ b1 : Int, ∃ q1 : Bool, x = .tuple #[.agg #[.int .u8 a1, .int .u8 b1], .bool q1] ∧ hs = [keptHP n0 w0] ∧ Fork (¬ (q1 = true)) (Q (.tuple #[.agg #[.int .u8 0, .int .u8 0, .int .u8 0, .int .u8 0, .int .u8 0, .int .i64 0, .int .u64 0, .slice none 0 0], .int .i64 5]) [keptHP n0 w0, setHP K, W]) (Q (.tuple #[.agg #[.int .u8 k, .int .u8 a1, .int .u8 b1, .int .u8 0, .int .u8 0, .int .i64 0, .int .u64 0, .slice none 0 0], .int .i64 0]) [keptHP n0 w0, setHP K, W])) := by
  obtain ⟨l1, hR⟩ := heq
  refine fun _ _ => ⟨by omega, fun _ => ?_⟩
  refine ⟨_, pdev_meets hL S1 (by omega), ?_⟩
  rintro x hs ⟨⟨a1, b1, _, _, _, _, rfl, hp1⟩, rfl⟩
  refine ⟨a1, b1, _, rfl, rfl, ?_⟩
  rcases h1 : devR S1 with _ | ⟨c1, d1⟩
  · have hR' : R = .inl 5 := by rw [hR]; simp [fieldsR, fieldR, finR, h1]
    exact ⟨fun _ => hQ _ _ (by rw [hR']; exact ⟨rfl, rfl⟩), fun h => (h fun e => Bool.false_ne_true e).elim⟩
  · obtain ⟨rfl, rfl⟩ := hp1 _ h1
    exact ⟨fun h => absurd rfl h, fun _ => hQ _ _ (by rw [hR]; simp only [fieldsR, fieldR, finR, List.headD_cons, List.tail_cons, Option.map_some, h1]; exact ⟨0, K, rfl, rfl, .inl ⟨rfl, rfl, rfl⟩⟩)⟩
theorem leaf_n (hL : Laid0 w0 n0) (k x0 : Int) (S1 : List UInt8) (K : BSet) (W : HP) (R : RO) (Q : Value → List HP → Prop) (hQ : ∀ x hs, OneP K R (keptHP n0 w0) W x hs → Q x hs) (hx3 : x0 = 2)
    (heq : (S1.length ≤ 1000000) ∧ R = finR (fieldsR [110] [S1] (Mv.z k))) :
    ∀ _ : Nat, ∀ _ : Nat, Need (1 < x0) (∃ post, Meets Tryd.prog 51 [.string ⟨S1.toArray⟩] [keptHP n0 w0] post ∧ ∀ x hs, post x hs → ∃ v1 : V1, ∃ a1 : Int, ∃ q1 : Bool, x = .tuple #[.int .i64 a1, (if q1 then ifaceOf v1.v else .nilIface)] ∧ hs = [keptHP n0 w0] ∧ Fork (¬ (q1 = true)) (∃ post, Meets Tryd.prog 22 [.int .i64 a1] [keptHP n0 w0] post ∧ ∀ x hs, post x hs → ∃ A1 : Nat → Int, x = .string ⟨(strD A1).toArray⟩ ∧ hs = [keptHP n0 w0] ∧ Fork (¬ (strD A1 = S1)) (Q (.tuple #[.agg #[.int .u8 0, .int .u8 0, .int .u8 0, .int .u8 0, .int .u8 0, .int .i64 0, .int .u64 0, .slice none 0 0], .int .i64 5]) [keptHP n0 w0, setHP K, W]) (Q (.tuple #[.agg #[.int .u8 k, .int .u8 0, .int .u8 0, .int .u8 0, .int .u8 0, .int .i64 a1, .int .u64 0, .slice none 0 0], .int .i64 0]) [keptHP n0 w0, setHP K, W])) (Q (.tuple #[.agg #[.int .u8 0, .int .u8 0, .int .u8 0, .int .u8 0, .int .u8 0, .int .i64 0, .int .u64 0, .slice none 0 0], .int .i64 5]) [keptHP n0 w0, setHP K, W])) := by
  obtain ⟨l1, hR⟩ := heq
  refine fun _ _ => ⟨by omega, fun _ => ?_⟩
  refine ⟨_, atoi_meets hL S1 (by omega), ?_⟩
  rintro x hs ⟨⟨a1, ⟨hl1, hu1⟩, ha1⟩, rfl⟩
  rcases ha1 with ⟨rfl, ho1⟩ | ⟨t, y, rfl, ho1⟩
  · refine ⟨V1.nil, a1, false, rfl, rfl, fun _ => ⟨_, itoa_meets hL a1 (by omega) (by omega), ?_⟩, fun h => absurd Bool.false_ne_true h⟩
    rintro x hs ⟨rfl, rfl⟩
    refine ⟨rowS (Lib.itoa a1), strV_row _, rfl, ?_⟩
    rw [strD_rowS]
    have hw1 := wholeR_ok ho1
    refine ⟨fun hd => ?_, fun hd => ?_⟩
    · have h1 : wholeR S1 = none := by rw [hw1, if_neg fun e => hd e.symm]
      have hR' : R = .inl 5 := by rw [hR]; simp [fieldsR, fieldR, finR, h1]
      exact hQ _ _ (by rw [hR']; exact ⟨rfl, rfl⟩)
    · have h1 : wholeR S1 = some a1 := by rw [hw1, if_pos (Classical.not_not.1 hd).symm]
      exact hQ _ _ (by rw [hR]; simp only [fieldsR, fieldR, finR, List.headD_cons, List.tail_cons, Option.map_some, h1]; exact ⟨0, K, rfl, rfl, .inl ⟨rfl, rfl, rfl⟩⟩)
  · refine ⟨⟨.iface t y, rfl⟩, a1, true, rfl, rfl, fun h => absurd rfl h, fun _ => ?_⟩
    have h1 : wholeR S1 = none := wholeR_no ho1
    have hR' : R = .inl 5 := by rw [hR]; simp [fieldsR, fieldR, finR, h1]
    exact hQ _ _ (by rw [hR']; exact ⟨rfl, rfl⟩)
theorem leaf_nc (hL : Laid0 w0 n0) (k x0 : Int) (S1 S2 : List UInt8) (K : BSet) (W : HP) (R : RO) (Q : Value → List HP → Prop) (hQ : ∀ x hs, OneP K R (keptHP n0 w0) W x hs → Q x hs) (hx3 : x0 = 3)
    (heq : (S1.length ≤ 1000000 ∧ S2.length ≤ 1000000) ∧ R = finR (fieldsR [110, 99] [S1, S2] (Mv.z k))) :
    ∀ _ : Nat, ∀ _ : Nat, Need (1 < x0) (∃ post, Meets Tryd.prog 51 [.string ⟨S1.toArray⟩] [keptHP n0 w0] post ∧ ∀ x hs, post x hs → ∃ v1 : V1, ∃ a1 : Int, ∃ q1 : Bool, x = .tuple #[.int .i64 a1, (if q1 then ifaceOf v1.v else .nilIface)] ∧ hs = [keptHP n0 w0] ∧ Fork (¬ (q1 = true)) (∃ post, Meets Tryd.prog 22 [.int .i64 a1] [keptHP n0 w0] post ∧ ∀ x hs, post x hs → ∃ A1 : Nat → Int, x = .string ⟨(strD A1).toArray⟩ ∧ hs = [keptHP n0 w0] ∧ Fork (¬ (strD A1 = S1)) (Q (.tuple #[.agg #[.int .u8 0, .int .u8 0, .int .u8 0, .int .u8 0, .int .u8 0, .int .i64 0, .int .u64 0, .slice none 0 0], .int .i64 5]) [keptHP n0 w0, setHP K, W]) (Need (2 < x0) (∃ post, Meets Tryd.prog 52 [.string ⟨S2.toArray⟩, .int .i64 64] [keptHP n0 w0] post ∧ ∀ x hs, post x hs → ∃ a2 : Int, ∃ q2 : Bool, x = .tuple #[.int .u64 a2, .bool q2] ∧ hs = [keptHP n0 w0] ∧ Fork (¬ (q2 = true)) (Q (.tuple #[.agg #[.int .u8 0, .int .u8 0, .int .u8 0, .int .u8 0, .int .u8 0, .int .i64 0, .int .u64 0, .slice none 0 0], .int .i64 5]) [keptHP n0 w0, setHP K, W]) (Q (.tuple #[.agg #[.int .u8 k, .int .u8 0, .int .u8 0, .int .u8 0, .int .u8 0, .int .i64 a1, .int .u64 a2, .slice none 0 0], .int .i64 0]) [keptHP n0 w0, setHP K, W])))) (Q (.tuple #[.agg #[.int .u8 0, .int .u8 0, .int .u8 0, .int .u8 0, .int .u8 0, .int .i64 0, .int .u64 0, .slice none 0 0], .int .i64 5]) [keptHP n0 w0, setHP K, W])) := by
  obtain ⟨⟨l1, l2⟩, hR⟩ := heq
  refine fun _ _ => ⟨by omega, fun _ => ?_⟩
  refine ⟨_, atoi_meets hL S1 (by omega), ?_⟩
  rintro x hs ⟨⟨a1, ⟨hl1, hu1⟩, ha1⟩, rfl⟩
  rcases ha1 with ⟨rfl, ho1⟩ | ⟨t, y, rfl, ho1⟩
  · refine ⟨V1.nil, a1, false, rfl, rfl, fun _ => ⟨_, itoa_meets hL a1 (by omega) (by omega), ?_⟩, fun h => absurd Bool.false_ne_true h⟩
    rintro x hs ⟨rfl, rfl⟩
    refine ⟨rowS (Lib.itoa a1), strV_row _, rfl, ?_⟩
    rw [strD_rowS]
    have hw1 := wholeR_ok ho1
    refine ⟨fun hd => ?_, fun hd => ?_⟩
    · have h1 : wholeR S1 = none := by rw [hw1, if_neg fun e => hd e.symm]
      have hR' : R = .inl 5 := by rw [hR]; simp [fieldsR, fieldR, finR, h1]
      exact hQ _ _ (by rw [hR']; exact ⟨rfl, rfl⟩)
    · have h1 : wholeR S1 = some a1 := by rw [hw1, if_pos (Classical.not_not.1 hd).symm]
      refine ⟨by omega, fun _ => ?_⟩
      refine ⟨_, fit64_meets hL S2 (by omega), ?_⟩
      rintro x hs ⟨⟨a2, _, rfl, hp2⟩, rfl⟩
      refine ⟨a2, _, rfl, rfl, ?_⟩
      rcases h2 : numR 18446744073709551615 S2 with _ | c2
      · have hR' : R = .inl 5 := by rw [hR]; simp [fieldsR, fieldR, finR, h1, h2]
        exact ⟨fun _ => hQ _ _ (by rw [hR']; exact ⟨rfl, rfl⟩), fun h => (h fun e => Bool.false_ne_true e).elim⟩
      · obtain rfl := hp2 _ h2
        exact ⟨fun h => absurd rfl h, fun _ => hQ _ _ (by rw [hR]; simp only [fieldsR, fieldR, finR, List.headD_cons, List.tail_cons, Option.map_some, h1, h2]; exact ⟨0, K, rfl, rfl, .inl ⟨rfl, rfl, rfl⟩⟩)⟩
  · refine ⟨⟨.iface t y, rfl⟩, a1, true, rfl, rfl, fun h => absurd rfl h, fun _ => ?_⟩
    have h1 : wholeR S1 = none := wholeR_no ho1
    have hR' : R = .inl 5 := by rw [hR]; simp [fieldsR, fieldR, finR, h1]
    exact hQ _ _ (by rw [hR']; exact ⟨rfl, rfl⟩)
theorem leaf_db (hL : Laid0 w0 n0) (k x0 : Int) (S1 S2 : List UInt8) (K : BSet) (W : HP) (R : RO) (Q : Value → List HP → Prop) (hQ : ∀ x hs, OneP K R (keptHP n0 w0) W x hs → Q x hs) (hx3 : x0 = 3)
    (heq : (S1.length ≤ 1000000 ∧ S2.length ≤ 1000000) ∧ R = finR (fieldsR [100, 98] [S1, S2] (Mv.z k))) :
    ∀ _ : Nat, ∀ _ : Nat, Need (1 < x0) (∃ post, Meets Tryd.prog 50 [.string ⟨S1.toArray⟩] [keptHP n0 w0] post ∧ ∀ x hs, post x hs → ∃ a1 : Int, ∃ b1 : Int, ∃ q1 : Bool, x = .tuple #[.agg #[.int .u8 a1, .int .u8 b1], .bool q1] ∧ hs = [keptHP n0 w0] ∧ Fork (¬ (q1 = true)) (Q (.tuple #[.agg #[.int .u8 0, .int .u8 0, .int .u8 0, .int .u8 0, .int .u8 0, .int .i64 0, .int .u64 0, .slice none 0 0], .int .i64 5]) [keptHP n0 w0, setHP K, W]) (Need (2 < x0) (∃ post, Meets Tryd.prog 53 [.string ⟨S2.toArray⟩] [setHP K] post ∧ ∀ x hs, post x hs → ∃ a2 : Int, ∃ q2 : Bool, ∃ p2 : HP, x = .tuple #[bslV a2, .bool q2] ∧ hs = [p2] ∧ Fork (¬ (q2 = true)) (Q (.tuple #[.agg #[.int .u8 0, .int .u8 0, .int .u8 0, .int .u8 0, .int .u8 0, .int .i64 0, .int .u64 0, .slice none 0 0], .int .i64 5]) [keptHP n0 w0, p2, W]) (Q (.tuple #[.agg #[.int .u8 k, .int .u8 a1, .int .u8 b1, .int .u8 0, .int .u8 0, .int .i64 0, .int .u64 0, bslV a2], .int .i64 0]) [keptHP n0 w0, p2, W])))) := by
  obtain ⟨⟨l1, l2⟩, hR⟩ := heq
  refine fun _ _ => ⟨by omega, fun _ => ?_⟩
  refine ⟨_, pdev_meets hL S1 (by omega), ?_⟩
  rintro x hs ⟨⟨a1, b1, _, _, _, _, rfl, hp1⟩, rfl⟩
  refine ⟨a1, b1, _, rfl, rfl, ?_⟩
  rcases h1 : devR S1 with _ | ⟨c1, d1⟩
  · have hR' : R = .inl 5 := by rw [hR]; simp [fieldsR, fieldR, finR, h1]
    exact ⟨fun _ => hQ _ _ (by rw [hR']; exact ⟨rfl, rfl⟩), fun h => (h fun e => Bool.false_ne_true e).elim⟩
  · obtain ⟨rfl, rfl⟩ := hp1 _ h1
    refine ⟨fun h => absurd rfl h, fun _ => ⟨by omega, fun _ => ?_⟩⟩
    refine ⟨_, pbytes_set K S2 (by omega), ?_⟩
    intro x hs hx
    rcases h2 : unhexR S2 with _ | bs
    · rw [h2] at hx
      obtain ⟨rfl, rfl⟩ := hx
      refine ⟨0, false, _, rfl, rfl, ?_⟩
      have hR' : R = .inl 5 := by rw [hR]; simp [fieldsR, fieldR, finR, h1, h2]
      exact ⟨fun _ => hQ _ _ (by rw [hR']; exact ⟨rfl, rfl⟩), fun h => (h fun e => Bool.false_ne_true e).elim⟩
    · rw [h2] at hx
      obtain ⟨e, rfl, rfl⟩ := hx
      refine ⟨e, true, _, rfl, rfl, ?_⟩
      exact ⟨fun h => absurd rfl h, fun _ => hQ _ _ (by rw [hR]; simp only [fieldsR, fieldR, finR, List.headD_cons, List.tail_cons, Option.map_some, h1, h2]; exact ⟨e, (K ++ [(e, bs)]), rfl, rfl, .inr rfl⟩)⟩
theorem leaf_dp (hL : Laid0 w0 n0) (k x0 : Int) (S1 S2 : List UInt8) (K : BSet) (W : HP) (R : RO) (Q : Value → List HP → Prop) (hQ : ∀ x hs, OneP K R (keptHP n0 w0) W x hs → Q x hs) (hx3 : x0 = 3)
    (heq : (S1.length ≤ 1000000 ∧ S2.length ≤ 1000000) ∧ R = finR (fieldsR [100, 112] [S1, S2] (Mv.z k))) :
    ∀ _ : Nat, ∀ _ : Nat, Need (1 < x0) (∃ post, Meets Tryd.prog 50 [.string ⟨S1.toArray⟩] [keptHP n0 w0] post ∧ ∀ x hs, post x hs → ∃ a1 : Int, ∃ b1 : Int, ∃ q1 : Bool, x = .tuple #[.agg #[.int .u8 a1, .int .u8 b1], .bool q1] ∧ hs = [keptHP n0 w0] ∧ Fork (¬ (q1 = true)) (Q (.tuple #[.agg #[.int .u8 0, .int .u8 0, .int .u8 0, .int .u8 0, .int .u8 0, .int .i64 0, .int .u64 0, .slice none 0 0], .int .i64 5]) [keptHP n0 w0, setHP K, W]) (Need (2 < x0) (∃ post, Meets Tryd.prog 50 [.string ⟨S2.toArray⟩] [keptHP n0 w0] post ∧ ∀ x hs, post x hs → ∃ a2 : Int, ∃ b2 : Int, ∃ q2 : Bool, x = .tuple #[.agg #[.int .u8 a2, .int .u8 b2], .bool q2] ∧ hs = [keptHP n0 w0] ∧ Fork (¬ (q2 = true)) (Q (.tuple #[.agg #[.int .u8 0, .int .u8 0, .int .u8 0, .int .u8 0, .int .u8 0, .int .i64 0, .int .u64 0, .slice none 0 0], .int .i64 5]) [keptHP n0 w0, setHP K, W]) (Q (.tuple #[.agg #[.int .u8 k, .int .u8 a1, .int .u8 b1, .int .u8 a2, .int .u8 b2, .int .i64 0, .int .u64 0, .slice none 0 0], .int .i64 0]) [keptHP n0 w0, setHP K, W])))) := by
  obtain ⟨⟨l1, l2⟩, hR⟩ := heq
  refine fun _ _ => ⟨by omega, fun _ => ?_⟩
  refine ⟨_, pdev_meets hL S1 (by omega), ?_⟩
  rintro x hs ⟨⟨a1, b1, _, _, _, _, rfl, hp1⟩, rfl⟩
  refine ⟨a1, b1, _, rfl, rfl, ?_⟩
  rcases h1 : devR S1 with _ | ⟨c1, d1⟩
  · have hR' : R = .inl 5 := by rw [hR]; simp [fieldsR, fieldR, finR, h1]
    exact ⟨fun _ => hQ _ _ (by rw [hR']; exact ⟨rfl, rfl⟩), fun h => (h fun e => Bool.false_ne_true e).elim⟩
  · obtain ⟨rfl, rfl⟩ := hp1 _ h1
    refine ⟨fun h => absurd rfl h, fun _ => ⟨by omega, fun _ => ?_⟩⟩
    refine ⟨_, pdev_meets hL S2 (by omega), ?_⟩
    rintro x hs ⟨⟨a2, b2, _, _, _, _, rfl, hp2⟩, rfl⟩
    refine ⟨a2, b2, _, rfl, rfl, ?_⟩
    rcases h2 : devR S2 with _ | ⟨c2, d2⟩
    · have hR' : R = .inl 5 := by rw [hR]; simp [fieldsR, fieldR, finR, h1, h2]
      exact ⟨fun _ => hQ _ _ (by rw [hR']; exact ⟨rfl, rfl⟩), fun h => (h fun e => Bool.false_ne_true e).elim⟩
    · obtain ⟨rfl, rfl⟩ := hp2 _ h2
      exact ⟨fun h => absurd rfl h, fun _ => hQ _ _ (by rw [hR]; simp only [fieldsR, fieldR, finR, List.headD_cons, List.tail_cons, Option.map_some, h1, h2]; exact ⟨0, K, rfl, rfl, .inl ⟨rfl, rfl, rfl⟩⟩)⟩
theorem leaf_dn (hL : Laid0 w0 n0) (k x0 : Int) (S1 S2 : List UInt8) (K : BSet) (W : HP) (R : RO) (Q : Value → List HP → Prop) (hQ : ∀ x hs, OneP K R (keptHP n0 w0) W x hs → Q x hs) (hx3 : x0 = 3)
    (heq : (S1.length ≤ 1000000 ∧ S2.length ≤ 1000000) ∧ R = finR (fieldsR [100, 110] [S1, S2] (Mv.z k))) :
    ∀ _ : Nat, ∀ _ : Nat, Need (1 < x0) (∃ post, Meets Tryd.prog 50 [.string ⟨S1.toArray⟩] [keptHP n0 w0] post ∧ ∀ x hs, post x hs → ∃ a1 : Int, ∃ b1 : Int, ∃ q1 : Bool, x = .tuple #[.agg #[.int .u8 a1, .int .u8 b1], .bool q1] ∧ hs = [keptHP n0 w0] ∧ Fork (¬ (q1 = true)) (Q (.tuple #[.agg #[.int .u8 0, .int .u8 0, .int .u8 0, .int .u8 0, .int .u8 0, .int .i64 0, .int .u64 0, .slice none 0 0], .int .i64 5]) [keptHP n0 w0, setHP K, W]) (Need (2 < x0) (∃ post, Meets Tryd.prog 51 [.string ⟨S2.toArray⟩] [keptHP n0 w0] post ∧ ∀ x hs, post x hs → ∃ v2 : V1, ∃ a2 : Int, ∃ q2 : Bool, x = .tuple #[.int .i64 a2, (if q2 then ifaceOf v2.v else .nilIface)] ∧ hs = [keptHP n0 w0] ∧ Fork (¬ (q2 = true)) (∃ post, Meets Tryd.prog 22 [.int .i64 a2] [keptHP n0 w0] post ∧ ∀ x hs, post x hs → ∃ A2 : Nat → Int, x = .string ⟨(strD A2).toArray⟩ ∧ hs = [keptHP n0 w0] ∧ Fork (¬ (strD A2 = S2)) (Q (.tuple #[.agg #[.int .u8 0, .int .u8 0, .int .u8 0, .int .u8 0, .int .u8 0, .int .i64 0, .int .u64 0, .slice none 0 0], .int .i64 5]) [keptHP n0 w0, setHP K, W]) (Q (.tuple #[.agg #[.int .u8 k, .int .u8 a1, .int .u8 b1, .int .u8 0, .int .u8 0, .int .i64 a2, .int .u64 0, .slice none 0 0], .int .i64 0]) [keptHP n0 w0, setHP K, W])) (Q (.tuple #[.agg #[.int .u8 0, .int .u8 0, .int .u8 0, .int .u8 0, .int .u8 0, .int .i64 0, .int .u64 0, .slice none 0 0], .int .i64 5]) [keptHP n0 w0, setHP K, W])))) := by
  obtain ⟨⟨l1, l2⟩, hR⟩ := heq
  refine fun _ _ => ⟨by omega, fun _ => ?_⟩
  refine ⟨_, pdev_meets hL S1 (by omega), ?_⟩
  rintro x hs ⟨⟨a1, b1, _, _, _, _, rfl, hp1⟩, rfl⟩
  refine ⟨a1, b1, _, rfl, rfl, ?_⟩
  rcases h1 : devR S1 with _ | ⟨c1, d1⟩
  · have hR' : R = .inl 5 := by rw [hR]; simp [fieldsR, fieldR, finR, h1]
    exact ⟨fun _ => hQ _ _ (by rw [hR']; exact ⟨rfl, rfl⟩), fun h => (h fun e => Bool.false_ne_true e).elim⟩
  · obtain ⟨rfl, rfl⟩ := hp1 _ h1
    refine ⟨fun h => absurd rfl h, fun _ => ⟨by omega, fun _ => ?_⟩⟩
    refine ⟨_, atoi_meets hL S2 (by omega), ?_⟩
    rintro x hs ⟨⟨a2, ⟨hl2, hu2⟩, ha2⟩, rfl⟩
    rcases ha2 with ⟨rfl, ho2⟩ | ⟨t, y, rfl, ho2⟩
    · refine ⟨V1.nil, a2, false, rfl, rfl, fun _ => ⟨_, itoa_meets hL a2 (by omega) (by omega), ?_⟩, fun h => absurd Bool.false_ne_true h⟩
      rintro x hs ⟨rfl, rfl⟩
      refine ⟨rowS (Lib.itoa a2), strV_row _, rfl, ?_⟩
      rw [strD_rowS]
      have hw2 := wholeR_ok ho2
      refine ⟨fun hd => ?_, fun hd => ?_⟩
      · have h2 : wholeR S2 = none := by rw [hw2, if_neg fun e => hd e.symm]
        have hR' : R = .inl 5 := by rw [hR]; simp [fieldsR, fieldR, finR, h1, h2]
        exact hQ _ _ (by rw [hR']; exact ⟨rfl, rfl⟩)
      · have h2 : wholeR S2 = some a2 := by rw [hw2, if_pos (Classical.not_not.1 hd).symm]
        exact hQ _ _ (by rw [hR]; simp only [fieldsR, fieldR, finR, List.headD_cons, List.tail_cons, Option.map_some, h1, h2]; exact ⟨0, K, rfl, rfl, .inl ⟨rfl, rfl, rfl⟩⟩)
    · refine ⟨⟨.iface t y, rfl⟩, a2, true, rfl, rfl, fun h => absurd rfl h, fun _ => ?_⟩
      have h2 : wholeR S2 = none := wholeR_no ho2
      have hR' : R = .inl 5 := by rw [hR]; simp [fieldsR, fieldR, finR, h1, h2]
      exact hQ _ _ (by rw [hR']; exact ⟨rfl, rfl⟩)
theorem form1_m : Meets Tryd.prog 20 [.int .u8 1] [] fun x hs => x = .tuple #[.string ⟨#[100, 105, 97, 108]⟩, .string ⟨#[100, 110]⟩, .bool true] ∧ hs = [] :=
  Meets.of_bare (C := cxW) (cnt := {}) (ρ := {}) okT okFT okM Tryd.func20 (by constructor <;> rfl) (fun v => v = .tuple #[.string ⟨#[100, 105, 97, 108]⟩, .string ⟨#[100, 110]⟩, .bool true]) (args := [.int .u8 (.lit 1)]) run_form1 (vc_form1 Tryd.prog (fun v _ => v = .tuple #[.string ⟨#[100, 105, 97, 108]⟩, .string ⟨#[100, 110]⟩, .bool true]) (fun _ => LC.none)) (by unfold st_form1; intros; rfl) (Sc.pure_ok cxW rfl)
theorem form2_m : Meets Tryd.prog 20 [.int .u8 2] [] fun x hs => x = .tuple #[.string ⟨#[97, 110, 115, 119, 101, 114]⟩, .string ⟨#[100]⟩, .bool true] ∧ hs = [] :=
  Meets.of_bare (C := cxW) (cnt := {}) (ρ := {}) okT okFT okM Tryd.func20 (by constructor <;> rfl) (fun v => v = .tuple #[.string ⟨#[97, 110, 115, 119, 101, 114]⟩, .string ⟨#[100]⟩, .bool true]) (args := [.int .u8 (.lit 2)]) run_form2 (vc_form2 Tryd.prog (fun v _ => v = .tuple #[.string ⟨#[97, 110, 115, 119, 101, 114]⟩, .string ⟨#[100]⟩, .bool true]) (fun _ => LC.none)) (by unfold st_form2; intros; rfl) (Sc.pure_ok cxW rfl)
theorem form3_m : Meets Tryd.prog 20 [.int .u8 3] [] fun x hs => x = .tuple #[.string ⟨#[100, 101, 99, 108, 105, 110, 101]⟩, .string ⟨#[100]⟩, .bool true] ∧ hs = [] :=
  Meets.of_bare (C := cxW) (cnt := {}) (ρ := {}) okT okFT okM Tryd.func20 (by constructor <;> rfl) (fun v => v = .tuple #[.string ⟨#[100, 101, 99, 108, 105, 110, 101]⟩, .string ⟨#[100]⟩, .bool true]) (args := [.int .u8 (.lit 3)]) run_form3 (vc_form3 Tryd.prog (fun v _ => v = .tuple #[.string ⟨#[100, 101, 99, 108, 105, 110, 101]⟩, .string ⟨#[100]⟩, .bool true]) (fun _ => LC.none)) (by unfold st_form3; intros; rfl) (Sc.pure_ok cxW rfl)
theorem form4_m : Meets Tryd.prog 20 [.int .u8 4] [] fun x hs => x = .tuple #[.string ⟨#[104, 97, 110, 103]⟩, .string ⟨#[100]⟩, .bool true] ∧ hs = [] :=
  Meets.of_bare (C := cxW) (cnt := {}) (ρ := {}) okT okFT okM Tryd.func20 (by constructor <;> rfl) (fun v => v = .tuple #[.string ⟨#[104, 97, 110, 103]⟩, .string ⟨#[100]⟩, .bool true]) (args := [.int .u8 (.lit 4)]) run_form4 (vc_form4 Tryd.prog (fun v _ => v = .tuple #[.string ⟨#[104, 97, 110, 103]⟩, .string ⟨#[100]⟩, .bool true]) (fun _ => LC.none)) (by unfold st_form4; intros; rfl) (Sc.pure_ok cxW rfl)
theorem form5_m : Meets Tryd.prog 20 [.int .u8 5] [] fun x hs => x = .tuple #[.string ⟨#[116, 105, 99, 107]⟩, .string ⟨#[110]⟩, .bool true] ∧ hs = [] :=
  Meets.of_bare (C := cxW) (cnt := {}) (ρ := {}) okT okFT okM Tryd.func20 (by constructor <;> rfl) (fun v => v = .tuple #[.string ⟨#[116, 105, 99, 107]⟩, .string ⟨#[110]⟩, .bool true]) (args := [.int .u8 (.lit 5)]) run_form5 (vc_form5 Tryd.prog (fun v _ => v = .tuple #[.string ⟨#[116, 105, 99, 107]⟩, .string ⟨#[110]⟩, .bool true]) (fun _ => LC.none)) (by unfold st_form5; intros; rfl) (Sc.pure_ok cxW rfl)
theorem form6_m : Meets Tryd.prog 20 [.int .u8 6] [] fun x hs => x = .tuple #[.string ⟨#[100, 101, 108, 105, 118, 101, 114]⟩, .string ⟨#[110]⟩, .bool true] ∧ hs = [] :=
  Meets.of_bare (C := cxW) (cnt := {}) (ρ := {}) okT okFT okM Tryd.func20 (by constructor <;> rfl) (fun v => v = .tuple #[.string ⟨#[100, 101, 108, 105, 118, 101, 114]⟩, .string ⟨#[110]⟩, .bool true]) (args := [.int .u8 (.lit 6)]) run_form6 (vc_form6 Tryd.prog (fun v _ => v = .tuple #[.string ⟨#[100, 101, 108, 105, 118, 101, 114]⟩, .string ⟨#[110]⟩, .bool true]) (fun _ => LC.none)) (by unfold st_form6; intros; rfl) (Sc.pure_ok cxW rfl)
theorem form7_m : Meets Tryd.prog 20 [.int .u8 7] [] fun x hs => x = .tuple #[.string ⟨#[100, 114, 111, 112]⟩, .string ⟨#[110]⟩, .bool true] ∧ hs = [] :=
  Meets.of_bare (C := cxW) (cnt := {}) (ρ := {}) okT okFT okM Tryd.func20 (by constructor <;> rfl) (fun v => v = .tuple #[.string ⟨#[100, 114, 111, 112]⟩, .string ⟨#[110]⟩, .bool true]) (args := [.int .u8 (.lit 7)]) run_form7 (vc_form7 Tryd.prog (fun v _ => v = .tuple #[.string ⟨#[100, 114, 111, 112]⟩, .string ⟨#[110]⟩, .bool true]) (fun _ => LC.none)) (by unfold st_form7; intros; rfl) (Sc.pure_ok cxW rfl)
theorem form8_m : Meets Tryd.prog 20 [.int .u8 8] [] fun x hs => x = .tuple #[.string ⟨#[100, 111, 117, 98, 108, 101]⟩, .string ⟨#[110]⟩, .bool true] ∧ hs = [] :=
  Meets.of_bare (C := cxW) (cnt := {}) (ρ := {}) okT okFT okM Tryd.func20 (by constructor <;> rfl) (fun v => v = .tuple #[.string ⟨#[100, 111, 117, 98, 108, 101]⟩, .string ⟨#[110]⟩, .bool true]) (args := [.int .u8 (.lit 8)]) run_form8 (vc_form8 Tryd.prog (fun v _ => v = .tuple #[.string ⟨#[100, 111, 117, 98, 108, 101]⟩, .string ⟨#[110]⟩, .bool true]) (fun _ => LC.none)) (by unfold st_form8; intros; rfl) (Sc.pure_ok cxW rfl)
theorem form9_m : Meets Tryd.prog 20 [.int .u8 9] [] fun x hs => x = .tuple #[.string ⟨#[116, 97, 109, 112, 101, 114]⟩, .string ⟨#[110, 99]⟩, .bool true] ∧ hs = [] :=
  Meets.of_bare (C := cxW) (cnt := {}) (ρ := {}) okT okFT okM Tryd.func20 (by constructor <;> rfl) (fun v => v = .tuple #[.string ⟨#[116, 97, 109, 112, 101, 114]⟩, .string ⟨#[110, 99]⟩, .bool true]) (args := [.int .u8 (.lit 9)]) run_form9 (vc_form9 Tryd.prog (fun v _ => v = .tuple #[.string ⟨#[116, 97, 109, 112, 101, 114]⟩, .string ⟨#[110, 99]⟩, .bool true]) (fun _ => LC.none)) (by unfold st_form9; intros; rfl) (Sc.pure_ok cxW rfl)
theorem form10_m : Meets Tryd.prog 20 [.int .u8 10] [] fun x hs => x = .tuple #[.string ⟨#[105, 110, 106, 101, 99, 116]⟩, .string ⟨#[100, 98]⟩, .bool true] ∧ hs = [] :=
  Meets.of_bare (C := cxW) (cnt := {}) (ρ := {}) okT okFT okM Tryd.func20 (by constructor <;> rfl) (fun v => v = .tuple #[.string ⟨#[105, 110, 106, 101, 99, 116]⟩, .string ⟨#[100, 98]⟩, .bool true]) (args := [.int .u8 (.lit 10)]) run_form10 (vc_form10 Tryd.prog (fun v _ => v = .tuple #[.string ⟨#[105, 110, 106, 101, 99, 116]⟩, .string ⟨#[100, 98]⟩, .bool true]) (fun _ => LC.none)) (by unfold st_form10; intros; rfl) (Sc.pure_ok cxW rfl)
theorem form11_m : Meets Tryd.prog 20 [.int .u8 11] [] fun x hs => x = .tuple #[.string ⟨#[99, 114, 101, 97, 116, 101]⟩, .string ⟨#[100]⟩, .bool true] ∧ hs = [] :=
  Meets.of_bare (C := cxW) (cnt := {}) (ρ := {}) okT okFT okM Tryd.func20 (by constructor <;> rfl) (fun v => v = .tuple #[.string ⟨#[99, 114, 101, 97, 116, 101]⟩, .string ⟨#[100]⟩, .bool true]) (args := [.int .u8 (.lit 11)]) run_form11 (vc_form11 Tryd.prog (fun v _ => v = .tuple #[.string ⟨#[99, 114, 101, 97, 116, 101]⟩, .string ⟨#[100]⟩, .bool true]) (fun _ => LC.none)) (by unfold st_form11; intros; rfl) (Sc.pure_ok cxW rfl)
theorem form12_m : Meets Tryd.prog 20 [.int .u8 12] [] fun x hs => x = .tuple #[.string ⟨#[97, 100, 100]⟩, .string ⟨#[100, 112]⟩, .bool true] ∧ hs = [] :=
  Meets.of_bare (C := cxW) (cnt := {}) (ρ := {}) okT okFT okM Tryd.func20 (by constructor <;> rfl) (fun v => v = .tuple #[.string ⟨#[97, 100, 100]⟩, .string ⟨#[100, 112]⟩, .bool true]) (args := [.int .u8 (.lit 12)]) run_form12 (vc_form12 Tryd.prog (fun v _ => v = .tuple #[.string ⟨#[97, 100, 100]⟩, .string ⟨#[100, 112]⟩, .bool true]) (fun _ => LC.none)) (by unfold st_form12; intros; rfl) (Sc.pure_ok cxW rfl)
theorem form13_m : Meets Tryd.prog 20 [.int .u8 13] [] fun x hs => x = .tuple #[.string ⟨#[107, 105, 99, 107]⟩, .string ⟨#[100, 112]⟩, .bool true] ∧ hs = [] :=
  Meets.of_bare (C := cxW) (cnt := {}) (ρ := {}) okT okFT okM Tryd.func20 (by constructor <;> rfl) (fun v => v = .tuple #[.string ⟨#[107, 105, 99, 107]⟩, .string ⟨#[100, 112]⟩, .bool true]) (args := [.int .u8 (.lit 13)]) run_form13 (vc_form13 Tryd.prog (fun v _ => v = .tuple #[.string ⟨#[107, 105, 99, 107]⟩, .string ⟨#[100, 112]⟩, .bool true]) (fun _ => LC.none)) (by unfold st_form13; intros; rfl) (Sc.pure_ok cxW rfl)
theorem form14_m : Meets Tryd.prog 20 [.int .u8 14] [] fun x hs => x = .tuple #[.string ⟨#[108, 101, 97, 118, 101]⟩, .string ⟨#[100]⟩, .bool true] ∧ hs = [] :=
  Meets.of_bare (C := cxW) (cnt := {}) (ρ := {}) okT okFT okM Tryd.func20 (by constructor <;> rfl) (fun v => v = .tuple #[.string ⟨#[108, 101, 97, 118, 101]⟩, .string ⟨#[100]⟩, .bool true]) (args := [.int .u8 (.lit 14)]) run_form14 (vc_form14 Tryd.prog (fun v _ => v = .tuple #[.string ⟨#[108, 101, 97, 118, 101]⟩, .string ⟨#[100]⟩, .bool true]) (fun _ => LC.none)) (by unfold st_form14; intros; rfl) (Sc.pure_ok cxW rfl)
theorem form15_m : Meets Tryd.prog 20 [.int .u8 15] [] fun x hs => x = .tuple #[.string ⟨#[102, 114, 97, 109, 101]⟩, .string ⟨#[100, 98]⟩, .bool true] ∧ hs = [] :=
  Meets.of_bare (C := cxW) (cnt := {}) (ρ := {}) okT okFT okM Tryd.func20 (by constructor <;> rfl) (fun v => v = .tuple #[.string ⟨#[102, 114, 97, 109, 101]⟩, .string ⟨#[100, 98]⟩, .bool true]) (args := [.int .u8 (.lit 15)]) run_form15 (vc_form15 Tryd.prog (fun v _ => v = .tuple #[.string ⟨#[102, 114, 97, 109, 101]⟩, .string ⟨#[100, 98]⟩, .bool true]) (fun _ => LC.none)) (by unfold st_form15; intros; rfl) (Sc.pure_ok cxW rfl)
theorem form16_m : Meets Tryd.prog 20 [.int .u8 16] [] fun x hs => x = .tuple #[.string ⟨#[]⟩, .string ⟨#[]⟩, .bool false] ∧ hs = [] :=
  Meets.of_bare (C := cxW) (cnt := {}) (ρ := {}) okT okFT okM Tryd.func20 (by constructor <;> rfl) (fun v => v = .tuple #[.string ⟨#[]⟩, .string ⟨#[]⟩, .bool false]) (args := [.int .u8 (.lit 16)]) run_form16 (vc_form16 Tryd.prog (fun v _ => v = .tuple #[.string ⟨#[]⟩, .string ⟨#[]⟩, .bool false]) (fun _ => LC.none)) (by unfold st_form16; intros; rfl) (Sc.pure_ok cxW rfl)
theorem pmove_meets (hL : Laid0 w0 n0) (K : BSet) (v : V1) (ws : List (List UInt8)) (hn : 0 < ws.length) (hl : ∀ w ∈ ws, w.length ≤ 1000000) :
    Meets Tryd.prog 31 [v.v] [keptHP n0 w0, setHP K, sliHP true 9 1 v.v ws.length (ws.map strV)] (OneP K (oneR ws) (keptHP n0 w0) (sliHP true 9 1 v.v ws.length (ws.map strV))) := by
  have ht := tab_strs ws (tabO ws) fun j _ => tabO_at ws j
  have hl' : ∀ j, (ws.getD j []).length ≤ 1000000 := by
    intro j
    rw [List.getD_eq_getElem?_getD]
    rcases h : ws[j]? with _ | w
    · simp
    · exact hl w (List.mem_of_getElem? h)
  have e0 : [keptHP n0 w0, setHP K, sliHP true 9 1 v.v ws.length (ws.map strV)] = [Ck.abs 0, Ck.abs 1, Ck.sli true 0 9 1 (.var 0) [⟨.str, 1, .avar 0⟩]].map (Ck.den { iv := [(ws.length : Int)], av := [tabO ws], vv := [v], pv := [keptHP n0 w0, setHP K] }) := by
    rw [← ht]
    rfl
  rw [e0]
  have h := Meets.of_runE (C := cxM) (cnt := { i := 1, a := 1, p := 2, v := 1 }) (ρ := { iv := [(ws.length : Int)], av := [tabO ws], vv := [v], pv := [keptHP n0 w0, setHP K] }) okT okFT okM Tryd.func31 (by constructor <;> rfl)
    (Post := fun x hs => OneP K (oneR ws) (keptHP n0 w0) (sliHP true 9 1 v.v ws.length (ws.map strV)) x (hs.take 3)) (args := [.vv 0]) (hp := [.abs 0, .abs 1, .sli true 0 9 1 (.var 0) [⟨.str, 1, .avar 0⟩]]) run_pmove
    (vc_pmove Tryd.prog (OneP K (oneR ws) (keptHP n0 w0) (sliHP true 9 1 v.v ws.length (ws.map strV))) ws.length (tabO ws) v (keptHP n0 w0) (setHP K) (fun _ => LC.none)) ?_
  · exact Meets.post h fun x hs hq => ⟨hs.take 3, Ent.sub (List.take_sublist 3 hs), hq⟩
  unfold st_pmove
  rw [Int.toNat_natCast, ht, tabO_at, tabO_at, tabO_at]
  rw [show strD (rowLF [4, 100, 105, 97, 108]) = [100, 105, 97, 108] from by decide]
  rw [show strD (rowLF [6, 97, 110, 115, 119, 101, 114]) = [97, 110, 115, 119, 101, 114] from by decide]
  rw [show strD (rowLF [7, 100, 101, 99, 108, 105, 110, 101]) = [100, 101, 99, 108, 105, 110, 101] from by decide]
  rw [show strD (rowLF [4, 104, 97, 110, 103]) = [104, 97, 110, 103] from by decide]
  rw [show strD (rowLF [4, 116, 105, 99, 107]) = [116, 105, 99, 107] from by decide]
  rw [show strD (rowLF [7, 100, 101, 108, 105, 118, 101, 114]) = [100, 101, 108, 105, 118, 101, 114] from by decide]
  rw [show strD (rowLF [4, 100, 114, 111, 112]) = [100, 114, 111, 112] from by decide]
  rw [show strD (rowLF [6, 100, 111, 117, 98, 108, 101]) = [100, 111, 117, 98, 108, 101] from by decide]
  rw [show strD (rowLF [6, 116, 97, 109, 112, 101, 114]) = [116, 97, 109, 112, 101, 114] from by decide]
  rw [show strD (rowLF [6, 105, 110, 106, 101, 99, 116]) = [105, 110, 106, 101, 99, 116] from by decide]
  rw [show strD (rowLF [6, 99, 114, 101, 97, 116, 101]) = [99, 114, 101, 97, 116, 101] from by decide]
  rw [show strD (rowLF [3, 97, 100, 100]) = [97, 100, 100] from by decide]
  rw [show strD (rowLF [4, 107, 105, 99, 107]) = [107, 105, 99, 107] from by decide]
  rw [show strD (rowLF [5, 108, 101, 97, 118, 101]) = [108, 101, 97, 118, 101] from by decide]
  rw [show strD (rowLF [5, 102, 114, 97, 109, 101]) = [102, 114, 97, 109, 101] from by decide]
  refine fun _ => ?_
  have hR : oneR ws = oneG formsL ws := rfl
  unfold formsL at hR
  generalize oneR ws = R at hR ⊢
  refine ⟨_, form1_m, ?_⟩
  rintro x hs ⟨rfl, rfl⟩
  refine ⟨rfl, rfl, ?_⟩
  refine ⟨by omega, fun _ => ?_⟩
  refine ⟨.inr (by omega), fun _ => ⟨fun h => ?_, fun h2 => ⟨fun h => ?_, fun h => ?_⟩⟩⟩
  · rw [oneG, if_pos h.1, if_pos (by have := h.2; simp only [List.length_cons, List.length_nil]; omega)] at hR
    rw [hR]
    exact ⟨rfl, rfl⟩
  rotate_left
  · have hw := Classical.not_not.1 h
    have hn : (ws.length : Int) = 3 := Classical.byContradiction fun e => h2 ⟨hw, e⟩
    exact leaf_dn hL 1 _ _ _ K _ _ _ (fun _ _ h => h) hn ⟨⟨hl' 1, hl' 2⟩, by rw [hR, oneG, if_pos hw, if_neg (by simp only [List.length_cons, List.length_nil]; omega), ws3 ws hn]⟩
  rw [oneG, if_neg h] at hR
  refine ⟨_, form2_m, ?_⟩
  rintro x hs ⟨rfl, rfl⟩
  refine ⟨rfl, rfl, ?_⟩
  refine ⟨.inr (by omega), fun _ => ⟨fun h => ?_, fun h2 => ⟨fun h => ?_, fun h => ?_⟩⟩⟩
  · rw [oneG, if_pos h.1, if_pos (by have := h.2; simp only [List.length_cons, List.length_nil]; omega)] at hR
    rw [hR]
    exact ⟨rfl, rfl⟩
  rotate_left
  · have hw := Classical.not_not.1 h
    have hn : (ws.length : Int) = 2 := Classical.byContradiction fun e => h2 ⟨hw, e⟩
    exact leaf_d hL 2 _ _ K _ _ _ (fun _ _ h => h) hn ⟨hl' 1, by rw [hR, oneG, if_pos hw, if_neg (by simp only [List.length_cons, List.length_nil]; omega), ws2 ws hn]⟩
  rw [oneG, if_neg h] at hR
  refine ⟨_, form3_m, ?_⟩
  rintro x hs ⟨rfl, rfl⟩
  refine ⟨rfl, rfl, ?_⟩
  refine ⟨.inr (by omega), fun _ => ⟨fun h => ?_, fun h2 => ⟨fun h => ?_, fun h => ?_⟩⟩⟩
  · rw [oneG, if_pos h.1, if_pos (by have := h.2; simp only [List.length_cons, List.length_nil]; omega)] at hR
    rw [hR]
    exact ⟨rfl, rfl⟩
  rotate_left
  · have hw := Classical.not_not.1 h
    have hn : (ws.length : Int) = 2 := Classical.byContradiction fun e => h2 ⟨hw, e⟩
    exact leaf_d hL 3 _ _ K _ _ _ (fun _ _ h => h) hn ⟨hl' 1, by rw [hR, oneG, if_pos hw, if_neg (by simp only [List.length_cons, List.length_nil]; omega), ws2 ws hn]⟩
  rw [oneG, if_neg h] at hR
  refine ⟨_, form4_m, ?_⟩
  rintro x hs ⟨rfl, rfl⟩
  refine ⟨rfl, rfl, ?_⟩
  refine ⟨.inr (by omega), fun _ => ⟨fun h => ?_, fun h2 => ⟨fun h => ?_, fun h => ?_⟩⟩⟩
  · rw [oneG, if_pos h.1, if_pos (by have := h.2; simp only [List.length_cons, List.length_nil]; omega)] at hR
    rw [hR]
    exact ⟨rfl, rfl⟩
  rotate_left
  · have hw := Classical.not_not.1 h
    have hn : (ws.length : Int) = 2 := Classical.byContradiction fun e => h2 ⟨hw, e⟩
    exact leaf_d hL 4 _ _ K _ _ _ (fun _ _ h => h) hn ⟨hl' 1, by rw [hR, oneG, if_pos hw, if_neg (by simp only [List.length_cons, List.length_nil]; omega), ws2 ws hn]⟩
  rw [oneG, if_neg h] at hR
  refine ⟨_, form5_m, ?_⟩
  rintro x hs ⟨rfl, rfl⟩
  refine ⟨rfl, rfl, ?_⟩
  refine ⟨.inr (by omega), fun _ => ⟨fun h => ?_, fun h2 => ⟨fun h => ?_, fun h => ?_⟩⟩⟩
  · rw [oneG, if_pos h.1, if_pos (by have := h.2; simp only [List.length_cons, List.length_nil]; omega)] at hR
    rw [hR]
    exact ⟨rfl, rfl⟩
  rotate_left
  · have hw := Classical.not_not.1 h
    have hn : (ws.length : Int) = 2 := Classical.byContradiction fun e => h2 ⟨hw, e⟩
    exact leaf_n hL 5 _ _ K _ _ _ (fun _ _ h => h) hn ⟨hl' 1, by rw [hR, oneG, if_pos hw, if_neg (by simp only [List.length_cons, List.length_nil]; omega), ws2 ws hn]⟩
  rw [oneG, if_neg h] at hR
  refine ⟨_, form6_m, ?_⟩
  rintro x hs ⟨rfl, rfl⟩
  refine ⟨rfl, rfl, ?_⟩
  refine ⟨.inr (by omega), fun _ => ⟨fun h => ?_, fun h2 => ⟨fun h => ?_, fun h => ?_⟩⟩⟩
  · rw [oneG, if_pos h.1, if_pos (by have := h.2; simp only [List.length_cons, List.length_nil]; omega)] at hR
    rw [hR]
    exact ⟨rfl, rfl⟩
  rotate_left
  · have hw := Classical.not_not.1 h
    have hn : (ws.length : Int) = 2 := Classical.byContradiction fun e => h2 ⟨hw, e⟩
    exact leaf_n hL 6 _ _ K _ _ _ (fun _ _ h => h) hn ⟨hl' 1, by rw [hR, oneG, if_pos hw, if_neg (by simp only [List.length_cons, List.length_nil]; omega), ws2 ws hn]⟩
  rw [oneG, if_neg h] at hR
  refine ⟨_, form7_m, ?_⟩
  rintro x hs ⟨rfl, rfl⟩
  refine ⟨rfl, rfl, ?_⟩
  refine ⟨.inr (by omega), fun _ => ⟨fun h => ?_, fun h2 => ⟨fun h => ?_, fun h => ?_⟩⟩⟩
  · rw [oneG, if_pos h.1, if_pos (by have := h.2; simp only [List.length_cons, List.length_nil]; omega)] at hR
    rw [hR]
    exact ⟨rfl, rfl⟩
  rotate_left
  · have hw := Classical.not_not.1 h
    have hn : (ws.length : Int) = 2 := Classical.byContradiction fun e => h2 ⟨hw, e⟩
    exact leaf_n hL 7 _ _ K _ _ _ (fun _ _ h => h) hn ⟨hl' 1, by rw [hR, oneG, if_pos hw, if_neg (by simp only [List.length_cons, List.length_nil]; omega), ws2 ws hn]⟩
  rw [oneG, if_neg h] at hR
  refine ⟨_, form8_m, ?_⟩
  rintro x hs ⟨rfl, rfl⟩
  refine ⟨rfl, rfl, ?_⟩
  refine ⟨.inr (by omega), fun _ => ⟨fun h => ?_, fun h2 => ⟨fun h => ?_, fun h => ?_⟩⟩⟩
  · rw [oneG, if_pos h.1, if_pos (by have := h.2; simp only [List.length_cons, List.length_nil]; omega)] at hR
    rw [hR]
    exact ⟨rfl, rfl⟩
  rotate_left
  · have hw := Classical.not_not.1 h
    have hn : (ws.length : Int) = 2 := Classical.byContradiction fun e => h2 ⟨hw, e⟩
    exact leaf_n hL 8 _ _ K _ _ _ (fun _ _ h => h) hn ⟨hl' 1, by rw [hR, oneG, if_pos hw, if_neg (by simp only [List.length_cons, List.length_nil]; omega), ws2 ws hn]⟩
  rw [oneG, if_neg h] at hR
  refine ⟨_, form9_m, ?_⟩
  rintro x hs ⟨rfl, rfl⟩
  refine ⟨rfl, rfl, ?_⟩
  refine ⟨.inr (by omega), fun _ => ⟨fun h => ?_, fun h2 => ⟨fun h => ?_, fun h => ?_⟩⟩⟩
  · rw [oneG, if_pos h.1, if_pos (by have := h.2; simp only [List.length_cons, List.length_nil]; omega)] at hR
    rw [hR]
    exact ⟨rfl, rfl⟩
  rotate_left
  · have hw := Classical.not_not.1 h
    have hn : (ws.length : Int) = 3 := Classical.byContradiction fun e => h2 ⟨hw, e⟩
    exact leaf_nc hL 9 _ _ _ K _ _ _ (fun _ _ h => h) hn ⟨⟨hl' 1, hl' 2⟩, by rw [hR, oneG, if_pos hw, if_neg (by simp only [List.length_cons, List.length_nil]; omega), ws3 ws hn]⟩
  rw [oneG, if_neg h] at hR
  refine ⟨_, form10_m, ?_⟩
  rintro x hs ⟨rfl, rfl⟩
  refine ⟨rfl, rfl, ?_⟩
  refine ⟨.inr (by omega), fun _ => ⟨fun h => ?_, fun h2 => ⟨fun h => ?_, fun h => ?_⟩⟩⟩
  · rw [oneG, if_pos h.1, if_pos (by have := h.2; simp only [List.length_cons, List.length_nil]; omega)] at hR
    rw [hR]
    exact ⟨rfl, rfl⟩
  rotate_left
  · have hw := Classical.not_not.1 h
    have hn : (ws.length : Int) = 3 := Classical.byContradiction fun e => h2 ⟨hw, e⟩
    exact leaf_db hL 10 _ _ _ K _ _ _ (fun _ _ h => h) hn ⟨⟨hl' 1, hl' 2⟩, by rw [hR, oneG, if_pos hw, if_neg (by simp only [List.length_cons, List.length_nil]; omega), ws3 ws hn]⟩
  rw [oneG, if_neg h] at hR
  refine ⟨_, form11_m, ?_⟩
  rintro x hs ⟨rfl, rfl⟩
  refine ⟨rfl, rfl, ?_⟩
  refine ⟨.inr (by omega), fun _ => ⟨fun h => ?_, fun h2 => ⟨fun h => ?_, fun h => ?_⟩⟩⟩
  · rw [oneG, if_pos h.1, if_pos (by have := h.2; simp only [List.length_cons, List.length_nil]; omega)] at hR
    rw [hR]
    exact ⟨rfl, rfl⟩
  rotate_left
  · have hw := Classical.not_not.1 h
    have hn : (ws.length : Int) = 2 := Classical.byContradiction fun e => h2 ⟨hw, e⟩
    exact leaf_d hL 11 _ _ K _ _ _ (fun _ _ h => h) hn ⟨hl' 1, by rw [hR, oneG, if_pos hw, if_neg (by simp only [List.length_cons, List.length_nil]; omega), ws2 ws hn]⟩
  rw [oneG, if_neg h] at hR
  refine ⟨_, form12_m, ?_⟩
  rintro x hs ⟨rfl, rfl⟩
  refine ⟨rfl, rfl, ?_⟩
  refine ⟨.inr (by omega), fun _ => ⟨fun h => ?_, fun h2 => ⟨fun h => ?_, fun h => ?_⟩⟩⟩
  · rw [oneG, if_pos h.1, if_pos (by have := h.2; simp only [List.length_cons, List.length_nil]; omega)] at hR
    rw [hR]
    exact ⟨rfl, rfl⟩
  rotate_left
  · have hw := Classical.not_not.1 h
    have hn : (ws.length : Int) = 3 := Classical.byContradiction fun e => h2 ⟨hw, e⟩
    exact leaf_dp hL 12 _ _ _ K _ _ _ (fun _ _ h => h) hn ⟨⟨hl' 1, hl' 2⟩, by rw [hR, oneG, if_pos hw, if_neg (by simp only [List.length_cons, List.length_nil]; omega), ws3 ws hn]⟩
  rw [oneG, if_neg h] at hR
  refine ⟨_, form13_m, ?_⟩
  rintro x hs ⟨rfl, rfl⟩
  refine ⟨rfl, rfl, ?_⟩
  refine ⟨.inr (by omega), fun _ => ⟨fun h => ?_, fun h2 => ⟨fun h => ?_, fun h => ?_⟩⟩⟩
  · rw [oneG, if_pos h.1, if_pos (by have := h.2; simp only [List.length_cons, List.length_nil]; omega)] at hR
    rw [hR]
    exact ⟨rfl, rfl⟩
  rotate_left
  · have hw := Classical.not_not.1 h
    have hn : (ws.length : Int) = 3 := Classical.byContradiction fun e => h2 ⟨hw, e⟩
    exact leaf_dp hL 13 _ _ _ K _ _ _ (fun _ _ h => h) hn ⟨⟨hl' 1, hl' 2⟩, by rw [hR, oneG, if_pos hw, if_neg (by simp only [List.length_cons, List.length_nil]; omega), ws3 ws hn]⟩
  rw [oneG, if_neg h] at hR
  refine ⟨_, form14_m, ?_⟩
  rintro x hs ⟨rfl, rfl⟩
  refine ⟨rfl, rfl, ?_⟩
  refine ⟨.inr (by omega), fun _ => ⟨fun h => ?_, fun h2 => ⟨fun h => ?_, fun h => ?_⟩⟩⟩
  · rw [oneG, if_pos h.1, if_pos (by have := h.2; simp only [List.length_cons, List.length_nil]; omega)] at hR
    rw [hR]
    exact ⟨rfl, rfl⟩
  rotate_left
  · have hw := Classical.not_not.1 h
    have hn : (ws.length : Int) = 2 := Classical.byContradiction fun e => h2 ⟨hw, e⟩
    exact leaf_d hL 14 _ _ K _ _ _ (fun _ _ h => h) hn ⟨hl' 1, by rw [hR, oneG, if_pos hw, if_neg (by simp only [List.length_cons, List.length_nil]; omega), ws2 ws hn]⟩
  rw [oneG, if_neg h] at hR
  refine ⟨_, form15_m, ?_⟩
  rintro x hs ⟨rfl, rfl⟩
  refine ⟨rfl, rfl, ?_⟩
  refine ⟨.inr (by omega), fun _ => ⟨fun h => ?_, fun h2 => ⟨fun h => ?_, fun h => ?_⟩⟩⟩
  · rw [oneG, if_pos h.1, if_pos (by have := h.2; simp only [List.length_cons, List.length_nil]; omega)] at hR
    rw [hR]
    exact ⟨rfl, rfl⟩
  rotate_left
  · have hw := Classical.not_not.1 h
    have hn : (ws.length : Int) = 3 := Classical.byContradiction fun e => h2 ⟨hw, e⟩
    exact leaf_db hL 15 _ _ _ K _ _ _ (fun _ _ h => h) hn ⟨⟨hl' 1, hl' 2⟩, by rw [hR, oneG, if_pos hw, if_neg (by simp only [List.length_cons, List.length_nil]; omega), ws3 ws hn]⟩
  rw [oneG, if_neg h] at hR
  refine ⟨_, form16_m, ?_⟩
  rintro x hs ⟨rfl, rfl⟩
  refine ⟨rfl, rfl, ?_⟩
  rw [hR, oneG]
  exact ⟨rfl, rfl⟩
end Go.RX.St
