/- A reflective symbolic executor, part 15a: slices as parts of others. -/
import Derived.Test.YtphemenngjkfbaaRxO
namespace Go.RX

section
variable {P : Program} {ρ : Env} {w : World} {look : Nat → Option SV} {vals : Operand → Value} {hp : List Ck} {S : Nat → Nat → Prop} {nb nv : Nat} {T : List TI}

theorem bLe'_prop {a b : E} (h : ∀ c ∈ bLe' a b, c.prop ρ) : a.den ρ 0 ≤ b.den ρ 0 := by
  unfold bLe' at h
  split at h
  · rename_i he
    subst he
    exact Int.le_refl _
  · have key : (bLe a b).den ρ = true := by
      by_cases hl : bLe a b = .lit true
      · rw [hl]; rfl
      · exact (BE.den_iff ρ _).2 (h _ (List.mem_filter.2 ⟨by simp, by simpa using hl⟩))
    rw [bLe_den] at key
    exact of_decide_eq_true key
theorem bLt_filter_prop {a b : E} (h : ∀ c ∈ [bLt a b].filter fun b => b != .lit true, c.prop ρ) : a.den ρ 0 < b.den ρ 0 := by
  have key : (bLt a b).den ρ = true := by
    by_cases hl : bLt a b = .lit true
    · rw [hl]; rfl
    · exact (BE.den_iff ρ _).2 (h _ (List.mem_filter.2 ⟨by simp, by simpa using hl⟩))
  rw [bLt_den] at key
  exact of_decide_eq_true key

theorem mem_app {α : Type} {q : α → Prop} {a b : List α} (h : ∀ c ∈ a ++ b, q c) : (∀ c ∈ a, q c) ∧ ∀ c ∈ b, q c :=
  ⟨fun c hc => h c (List.mem_append_left _ hc), fun c hc => h c (List.mem_append_right _ hc)⟩

theorem addr_add_zero (a : Addr) : a.add 0 = a := by simp [Addr.add]
theorem map_add_zero (a : Option Addr) : a.map (·.add 0) = a := by cases a <;> simp [addr_add_zero]

/-- The slice x is v's part from L on, of N elements; v has n. -/
structure SubOf (s : Nat) (v x : Value) (n L N : Int) (mx : Option Int) : Prop where
  lo : 0 ≤ L
  hi : L + N ≤ n
  top : ∀ m, mx = some m → L + N ≤ m ∧ m ≤ n
  is : ∃ a c k, v = .slice a n.toNat c ∧ n.toNat ≤ c ∧ x = .slice (a.map (·.add k)) N.toNat ((mx.map Int.toNat).getD c - L.toNat) ∧ (L.toNat < (mx.map Int.toNat).getD c ∨ L = 0 → k = L.toNat * s)

abbrev Part.den (ρ : Env) (p : Part) : Int × Int × Option Int := (p.lo.den ρ 0, p.len.den ρ 0, p.mx.map fun m => m.den ρ 0)
def SubAt (ρ : Env) (s : Nat) (v x : Value) (n : E) (p : Part) : Prop := SubOf s v x (n.den ρ 0) (p.lo.den ρ 0) (p.len.den ρ 0) (p.mx.map fun m => m.den ρ 0)

theorem SubAt.whole {s : Nat} {v : Value} {n : E} (h : ∃ a c, v = .slice a (n.den ρ 0).toNat c ∧ (n.den ρ 0).toNat ≤ c) : SubAt ρ s v v n ⟨.lit 0, n, none⟩ := by
  obtain ⟨a, c, hv, hc⟩ := h
  refine ⟨by simp [E.den], by simp [E.den], by simp, a, c, 0, hv, hc, ?_, ?_⟩
  · rw [map_add_zero]
    simpa [E.den] using hv
  · simp [E.den]

theorem SubAt.step {s : Nat} {v x : Value} {n : E} {p : Part} (h : SubAt ρ s v x n p) (c : Cut) (hvc : ∀ b ∈ (cutStep n p c).2, b.prop ρ) :
    SubAt ρ s v (subSlice s x (c.lo.den ρ 0).toNat (c.hi.den ρ 0).toNat (c.mx.map fun m => (m.den ρ 0).toNat)) n (cutStep n p c).1 ∧
    0 ≤ c.lo.den ρ 0 ∧ c.lo.den ρ 0 ≤ c.hi.den ρ 0 ∧ (∀ m, c.mx = some m → c.hi.den ρ 0 ≤ m.den ρ 0) ∧
    ∃ a N C, x = .slice a N C ∧ N = (p.len.den ρ 0).toNat ∧ (c.mx = none → (c.hi.den ρ 0).toNat ≤ C) ∧ ∀ m, c.mx = some m → (m.den ρ 0).toNat ≤ C := by
  obtain ⟨lo, hi, mx⟩ := c
  obtain ⟨pl, pn, pm⟩ := p
  obtain ⟨h1, h2, h3, a, c, k, rfl, hc, rfl, hk⟩ := h
  simp only [cutStep] at hvc ⊢
  obtain ⟨hv1, hv2⟩ := mem_app hvc
  obtain ⟨hv0, hv1⟩ := mem_app hv1
  have e0 := bLe'_prop hv0
  have e1 := bLe'_prop hv1
  simp only [E.den] at e0
  simp only at h1 h2 h3 hk
  generalize hL : pl.den ρ 0 = L at *
  generalize hN : pn.den ρ 0 = N at *
  generalize hn : n.den ρ 0 = nn at *
  generalize hl : lo.den ρ 0 = l at *
  generalize hh : hi.den ρ 0 = hd at *
  cases mx with
  | none =>
    cases pm with
    | none =>
      simp only [] at hv2
      have e2 := bLe'_prop hv2
      rw [eAdd_den, hL, hh, hn] at e2
      simp only [Option.map_none, Option.getD_none] at hk ⊢
      refine ⟨⟨by simp only [eAdd_den, hL, hl]; omega, by simp only [eAdd_den, eSub_den, hL, hl, hh, hn]; omega, by simp, a, c, k + if c - L.toNat = l.toNat then 0 else l.toNat * s, by rw [hn], by rw [hn]; exact hc, ?_, ?_⟩, e0, e1, by simp, _, _, _, rfl, rfl, fun _ => by omega, by simp⟩
      · simp only [subSlice, Option.map_none, Option.getD_none, eAdd_den, eSub_den, hL, hl, hh]
        congr 1
        · split
          · simp
          · cases a <;> simp [addr_add_add]
        · omega
        · omega
      · simp only [eAdd_den, hL, hl]
        intro hor
        rcases hor with hor | hor
        · simp only [Option.map_none, Option.getD_none] at hor
          rw [if_neg (by omega), hk (.inl (by omega)), ← Nat.add_mul]
          congr 1
          omega
        · have hl0 : l = 0 := by omega
          have hL0 : L = 0 := by omega
          subst hl0 hL0
          rw [hk (.inr rfl)]
          simp
    | some m0 =>
      simp only [] at hv2
      have e2 := bLe'_prop hv2
      rw [eAdd_den, hL, hh] at e2
      simp only [Option.map_some, Option.getD_some] at hk h3 ⊢
      have h3' := h3 _ rfl
      generalize hm : m0.den ρ 0 = m at *
      refine ⟨⟨by simp only [eAdd_den, hL, hl]; omega, by simp only [eAdd_den, eSub_den, hL, hl, hh, hn]; omega, ?_, a, c, k + if m.toNat - L.toNat = l.toNat then 0 else l.toNat * s, by rw [hn], by rw [hn]; exact hc, ?_, ?_⟩, e0, e1, by simp, _, _, _, rfl, rfl, fun _ => by omega, by simp⟩
      · simp only [Option.map_some, eAdd_den, eSub_den, hL, hl, hh, hn, hm, Option.some.injEq]
        rintro _ rfl
        omega
      · simp only [subSlice, Option.map_none, Option.getD_none, Option.getD_some, Option.map_some, eAdd_den, eSub_den, hL, hl, hh, hm]
        congr 1
        · split
          · simp
          · cases a <;> simp [addr_add_add]
        · omega
        · omega
      · simp only [eAdd_den, hL, hl, Option.map_some, Option.getD_some, hm]
        intro hor
        rcases hor with hor | hor
        · rw [if_neg (by omega), hk (.inl (by omega)), ← Nat.add_mul]
          congr 1
          omega
        · have hl0 : l = 0 := by omega
          have hL0 : L = 0 := by omega
          subst hl0 hL0
          rw [hk (.inr rfl)]
          simp
  | some mq =>
    have e3 : (hd ≤ mq.den ρ 0) ∧ L + mq.den ρ 0 ≤ nn ∧ ∀ m0, pm = some m0 → L + mq.den ρ 0 ≤ m0.den ρ 0 := by
      cases pm with
      | none =>
        simp only [] at hv2
        obtain ⟨g1, g2⟩ := mem_app hv2
        have g1 := bLe'_prop g1
        have g2 := bLe'_prop g2
        rw [eAdd_den, hL, hn] at g2
        rw [hh] at g1
        exact ⟨g1, g2, by simp⟩
      | some m0 =>
        simp only [] at hv2
        obtain ⟨g1, g2⟩ := mem_app hv2
        have g1 := bLe'_prop g1
        have g2 := bLe'_prop g2
        rw [eAdd_den, hL] at g2
        rw [hh] at g1
        have : L + N ≤ m0.den ρ 0 ∧ m0.den ρ 0 ≤ nn := h3 _ rfl
        refine ⟨g1, by omega, ?_⟩
        rintro _ ⟨⟩
        exact g2
    obtain ⟨e3, e4, e5⟩ := e3
    generalize hm : mq.den ρ 0 = m at *
    have htop : L.toNat + m.toNat ≤ (Option.map Int.toNat (Option.map (fun m => E.den ρ m 0) pm)).getD c := by
      cases pm with
      | none => simp only [Option.map_none, Option.getD_none]; omega
      | some m0 =>
        have := e5 _ rfl
        simp only [Option.map_some, Option.getD_some]; omega
    generalize (Option.map Int.toNat (Option.map (fun m => E.den ρ m 0) pm)).getD c = tp at *
    simp only [Option.map_some]
    refine ⟨⟨by simp only [eAdd_den, hL, hl]; omega, by simp only [eAdd_den, eSub_den, hL, hl, hh, hn]; omega, ?_, a, c, k + if m.toNat = l.toNat then 0 else l.toNat * s, by rw [hn], by rw [hn]; exact hc, ?_, ?_⟩, e0, e1, ?_, _, _, _, rfl, rfl, by simp, ?_⟩
    · simp only [Option.map_some, eAdd_den, eSub_den, hL, hl, hh, hn, hm, Option.some.injEq]
      rintro _ rfl
      omega
    · simp only [subSlice, Option.getD_some, Option.map_some, eAdd_den, eSub_den, hL, hl, hh, hm]
      congr 1
      · split
        · simp
        · cases a <;> simp [addr_add_add]
      · omega
      · omega
    · simp only [eAdd_den, hL, hl, Option.map_some, Option.getD_some, hm]
      intro hor
      rcases hor with hor | hor
      · rw [if_neg (by omega), hk (.inl (by omega)), ← Nat.add_mul]
        congr 1
        omega
      · have hl0 : l = 0 := by omega
        have hL0 : L = 0 := by omega
        subst hl0 hL0
        rw [hk (.inr rfl)]
        simp
    · rintro _ ⟨⟩
      rw [hm]; exact e3
    · rintro _ ⟨⟩
      rw [hm]; omega

theorem cutsOf_spec {s : Nat} {v : Value} {n : E} : ∀ (cs : List Cut) (x : Value) (p : Part), SubAt ρ s v x n p → (∀ b ∈ (cutsOf n cs p).2, b.prop ρ) → SubAt ρ s v (subSlices ρ s x cs) n (cutsOf n cs p).1
  | [], _, _, h, _ => h
  | c :: r, x, p, h, hvc => by
    simp only [cutsOf] at hvc ⊢
    obtain ⟨h1, h2⟩ := mem_app hvc
    exact cutsOf_spec r _ _ (h.step c h1).1 h2

theorem sli_whole {md : Bool} {t s n : Nat} {v : Value} {cs : List Value} {S : Nat → Prop} (h : (sliHP md t s v n cs).p w S) : ∃ a c, v = .slice a n c ∧ n ≤ c := by
  obtain ⟨h0, _⟩ := h
  cases md with
  | true =>
    simp only [if_true] at h0
    rcases h0.2 with ⟨rfl, rfl⟩ | ⟨g, o, cap, cur, rfl, _, hnc, _⟩
    · exact ⟨_, _, rfl, Nat.le_refl _⟩
    · exact ⟨_, _, rfl, hnc⟩
  | false =>
    simp only [Bool.false_eq_true, if_false] at h0
    obtain ⟨_, a, m, c', rfl, rfl, hmc, _⟩ := h0
    exact ⟨_, _, rfl, hmc⟩

/-- What is known of a slice that was found. -/
theorem rootSV_spec {x : SV} {r : Rt} (h : rootSV hp x = some r) (hrd : Reads hp ρ w S [r.j]) (hvc : ∀ b ∈ r.vcs, b.prop ρ) :
    hp[r.j]? = some (.sli r.md r.v r.t r.s r.n r.cols) ∧ SubAt ρ r.s (ρ.vv.getD r.v V1.nil).v (x.val ρ) r.n r.p := by
  unfold rootSV at h
  split at h
  · rename_i v
    split at h
    · rename_i j md v' t s n cols hf
      cases h
      obtain ⟨hj, hat⟩ := findOwn_spec hf
      simp only [Ck.ownOf, beq_iff_eq] at hat
      subst hat
      have hS := hrd j (by simp) _ hj
      exact ⟨hj, SubAt.whole (sli_whole hS)⟩
    · cases h
  · rename_i v cs s'
    split at h
    · rename_i j md v' t s n cols hf
      split at h
      · rename_i hs
        subst hs
        cases h
        obtain ⟨hj, hat⟩ := findOwn_spec hf
        simp only [Ck.ownOf, beq_iff_eq] at hat
        subst hat
        have hS := hrd j (by simp) _ hj
        exact ⟨hj, cutsOf_spec cs _ _ (SubAt.whole (sli_whole hS)) hvc⟩
      · cases h
    · cases h
  · cases h

end
end Go.RX
