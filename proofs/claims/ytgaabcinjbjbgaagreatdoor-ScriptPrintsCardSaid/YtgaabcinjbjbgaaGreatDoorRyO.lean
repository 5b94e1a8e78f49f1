/- A reflective symbolic executor, part 15g: what is done to maps. -/
import Derived.Test.YtgaabcinjbjbgaaGreatDoorRxO
import Derived.Laws.MakeOwn
import Derived.DeepKeys3
import Derived.MapKept

namespace Go.RX

section
variable {P : Program} {ρ : Env} {w : World} {look : Nat → Option SV} {vals : Operand → Value} {hp : List Ck} {S : Nat → Nat → Prop} {nb nv : Nat} {T : List TI}

theorem bLe'_prop {a b : E} (h : ∀ c ∈ bLe' a b, c.prop ρ) : a.den ρ 0 ≤ b.den ρ 0 := by
  unfold bLe' at h
  split at h
  · rename_i he
    subst he
    exact Int.le_refl _
  · have key : (bLe a b).den ρ = true := by
      by_cases hl : bLe a b = .lit true
      · rw [hl]; rfl
      · exact (BE.den_iff ρ _).2 (h _ (List.mem_filter.2 ⟨by simp, by simpa using hl⟩))
    rw [bLe_den] at key
    exact of_decide_eq_true key
theorem bLt_filter_prop {a b : E} (h : ∀ c ∈ [bLt a b].filter fun b => b != .lit true, c.prop ρ) : a.den ρ 0 < b.den ρ 0 := by
  have key : (bLt a b).den ρ = true := by
    by_cases hl : bLt a b = .lit true
    · rw [hl]; rfl
    · exact (BE.den_iff ρ _).2 (h _ (List.mem_filter.2 ⟨by simp, by simpa using hl⟩))
  rw [bLt_den] at key
  exact of_decide_eq_true key

theorem mem_app {α : Type} {q : α → Prop} {a b : List α} (h : ∀ c ∈ a ++ b, q c) : (∀ c ∈ a, q c) ∧ ∀ c ∈ b, q c :=
  ⟨fun c hc => h c (List.mem_append_left _ hc), fun c hc => h c (List.mem_append_right _ hc)⟩

theorem addr_add_zero (a : Addr) : a.add 0 = a := by simp [Addr.add]
theorem map_add_zero (a : Option Addr) : a.map (·.add 0) = a := by cases a <;> simp [addr_add_zero]

/-- The slice x is v's part from L on, of N elements; v has n. -/
structure SubOf (s : Nat) (v x : Value) (n L N : Int) (mx : Option Int) : Prop where
  lo : 0 ≤ L
  hi : L + N ≤ n
  top : ∀ m, mx = some m → L + N ≤ m ∧ m ≤ n
  is : ∃ a c k, v = .slice a n.toNat c ∧ n.toNat ≤ c ∧ x = .slice (a.map (·.add k)) N.toNat ((mx.map Int.toNat).getD c - L.toNat) ∧ (L.toNat < (mx.map Int.toNat).getD c ∨ L = 0 → k = L.toNat * s)

abbrev Part.den (ρ : Env) (p : Part) : Int × Int × Option Int := (p.lo.den ρ 0, p.len.den ρ 0, p.mx.map fun m => m.den ρ 0)
def SubAt (ρ : Env) (s : Nat) (v x : Value) (n : E) (p : Part) : Prop := SubOf s v x (n.den ρ 0) (p.lo.den ρ 0) (p.len.den ρ 0) (p.mx.map fun m => m.den ρ 0)

theorem SubAt.whole {s : Nat} {v : Value} {n : E} (h : ∃ a c, v = .slice a (n.den ρ 0).toNat c ∧ (n.den ρ 0).toNat ≤ c) : SubAt ρ s v v n ⟨.lit 0, n, none⟩ := by
  obtain ⟨a, c, hv, hc⟩ := h
  refine ⟨by simp [E.den], by simp [E.den], by simp, a, c, 0, hv, hc, ?_, ?_⟩
  · rw [map_add_zero]
    simpa [E.den] using hv
  · simp [E.den]

theorem SubAt.step {s : Nat} {v x : Value} {n : E} {p : Part} (h : SubAt ρ s v x n p) (c : Cut) (hvc : ∀ b ∈ (cutStep n p c).2, b.prop ρ) :
    SubAt ρ s v (subSlice s x (c.lo.den ρ 0).toNat (c.hi.den ρ 0).toNat (c.mx.map fun m => (m.den ρ 0).toNat)) n (cutStep n p c).1 ∧
    0 ≤ c.lo.den ρ 0 ∧ c.lo.den ρ 0 ≤ c.hi.den ρ 0 ∧ (∀ m, c.mx = some m → c.hi.den ρ 0 ≤ m.den ρ 0) ∧
    ∃ a N C, x = .slice a N C ∧ N = (p.len.den ρ 0).toNat ∧ (c.mx = none → (c.hi.den ρ 0).toNat ≤ C) ∧ ∀ m, c.mx = some m → (m.den ρ 0).toNat ≤ C := by
  obtain ⟨lo, hi, mx⟩ := c
  obtain ⟨pl, pn, pm⟩ := p
  obtain ⟨h1, h2, h3, a, c, k, rfl, hc, rfl, hk⟩ := h
  simp only [cutStep] at hvc ⊢
  obtain ⟨hv1, hv2⟩ := mem_app hvc
  obtain ⟨hv0, hv1⟩ := mem_app hv1
  have e0 := bLe'_prop hv0
  have e1 := bLe'_prop hv1
  simp only [E.den] at e0
  simp only at h1 h2 h3 hk
  generalize hL : pl.den ρ 0 = L at *
  generalize hN : pn.den ρ 0 = N at *
  generalize hn : n.den ρ 0 = nn at *
  generalize hl : lo.den ρ 0 = l at *
  generalize hh : hi.den ρ 0 = hd at *
  cases mx with
  | none =>
    cases pm with
    | none =>
      simp only [] at hv2
      have e2 := bLe'_prop hv2
      rw [eAdd_den, hL, hh, hn] at e2
      simp only [Option.map_none, Option.getD_none] at hk ⊢
      refine ⟨⟨by simp only [eAdd_den, hL, hl]; omega, by simp only [eAdd_den, eSub_den, hL, hl, hh, hn]; omega, by simp, a, c, k + if c - L.toNat = l.toNat then 0 else l.toNat * s, by rw [hn], by rw [hn]; exact hc, ?_, ?_⟩, e0, e1, by simp, _, _, _, rfl, rfl, fun _ => by omega, by simp⟩
      · simp only [subSlice, Option.map_none, Option.getD_none, eAdd_den, eSub_den, hL, hl, hh]
        congr 1
        · split
          · simp
          · cases a <;> simp [addr_add_add]
        · omega
        · omega
      · simp only [eAdd_den, hL, hl]
        intro hor
        rcases hor with hor | hor
        · simp only [Option.map_none, Option.getD_none] at hor
          rw [if_neg (by omega), hk (.inl (by omega)), ← Nat.add_mul]
          congr 1
          omega
        · have hl0 : l = 0 := by omega
          have hL0 : L = 0 := by omega
          subst hl0 hL0
          rw [hk (.inr rfl)]
          simp
    | some m0 =>
      simp only [] at hv2
      have e2 := bLe'_prop hv2
      rw [eAdd_den, hL, hh] at e2
      simp only [Option.map_some, Option.getD_some] at hk h3 ⊢
      have h3' := h3 _ rfl
      generalize hm : m0.den ρ 0 = m at *
      refine ⟨⟨by simp only [eAdd_den, hL, hl]; omega, by simp only [eAdd_den, eSub_den, hL, hl, hh, hn]; omega, ?_, a, c, k + if m.toNat - L.toNat = l.toNat then 0 else l.toNat * s, by rw [hn], by rw [hn]; exact hc, ?_, ?_⟩, e0, e1, by simp, _, _, _, rfl, rfl, fun _ => by omega, by simp⟩
      · simp only [Option.map_some, eAdd_den, eSub_den, hL, hl, hh, hn, hm, Option.some.injEq]
        rintro _ rfl
        omega
      · simp only [subSlice, Option.map_none, Option.getD_none, Option.getD_some, Option.map_some, eAdd_den, eSub_den, hL, hl, hh, hm]
        congr 1
        · split
          · simp
          · cases a <;> simp [addr_add_add]
        · omega
        · omega
      · simp only [eAdd_den, hL, hl, Option.map_some, Option.getD_some, hm]
        intro hor
        rcases hor with hor | hor
        · rw [if_neg (by omega), hk (.inl (by omega)), ← Nat.add_mul]
          congr 1
          omega
        · have hl0 : l = 0 := by omega
          have hL0 : L = 0 := by omega
          subst hl0 hL0
          rw [hk (.inr rfl)]
          simp
  | some mq =>
    have e3 : (hd ≤ mq.den ρ 0) ∧ L + mq.den ρ 0 ≤ nn ∧ ∀ m0, pm = some m0 → L + mq.den ρ 0 ≤ m0.den ρ 0 := by
      cases pm with
      | none =>
        simp only [] at hv2
        obtain ⟨g1, g2⟩ := mem_app hv2
        have g1 := bLe'_prop g1
        have g2 := bLe'_prop g2
        rw [eAdd_den, hL, hn] at g2
        rw [hh] at g1
        exact ⟨g1, g2, by simp⟩
      | some m0 =>
        simp only [] at hv2
        obtain ⟨g1, g2⟩ := mem_app hv2
        have g1 := bLe'_prop g1
        have g2 := bLe'_prop g2
        rw [eAdd_den, hL] at g2
        rw [hh] at g1
        have : L + N ≤ m0.den ρ 0 ∧ m0.den ρ 0 ≤ nn := h3 _ rfl
        refine ⟨g1, by omega, ?_⟩
        rintro _ ⟨⟩
        exact g2
    obtain ⟨e3, e4, e5⟩ := e3
    generalize hm : mq.den ρ 0 = m at *
    have htop : L.toNat + m.toNat ≤ (Option.map Int.toNat (Option.map (fun m => E.den ρ m 0) pm)).getD c := by
      cases pm with
      | none => simp only [Option.map_none, Option.getD_none]; omega
      | some m0 =>
        have := e5 _ rfl
        simp only [Option.map_some, Option.getD_some]; omega
    generalize (Option.map Int.toNat (Option.map (fun m => E.den ρ m 0) pm)).getD c = tp at *
    simp only [Option.map_some]
    refine ⟨⟨by simp only [eAdd_den, hL, hl]; omega, by simp only [eAdd_den, eSub_den, hL, hl, hh, hn]; omega, ?_, a, c, k + if m.toNat = l.toNat then 0 else l.toNat * s, by rw [hn], by rw [hn]; exact hc, ?_, ?_⟩, e0, e1, ?_, _, _, _, rfl, rfl, by simp, ?_⟩
    · simp only [Option.map_some, eAdd_den, eSub_den, hL, hl, hh, hn, hm, Option.some.injEq]
      rintro _ rfl
      omega
    · simp only [subSlice, Option.getD_some, Option.map_some, eAdd_den, eSub_den, hL, hl, hh, hm]
      congr 1
      · split
        · simp
        · cases a <;> simp [addr_add_add]
      · omega
      · omega
    · simp only [eAdd_den, hL, hl, Option.map_some, Option.getD_some, hm]
      intro hor
      rcases hor with hor | hor
      · rw [if_neg (by omega), hk (.inl (by omega)), ← Nat.add_mul]
        congr 1
        omega
      · have hl0 : l = 0 := by omega
        have hL0 : L = 0 := by omega
        subst hl0 hL0
        rw [hk (.inr rfl)]
        simp
    · rintro _ ⟨⟩
      rw [hm]; exact e3
    · rintro _ ⟨⟩
      rw [hm]; omega

theorem cutsOf_spec {s : Nat} {v : Value} {n : E} : ∀ (cs : List Cut) (x : Value) (p : Part), SubAt ρ s v x n p → (∀ b ∈ (cutsOf n cs p).2, b.prop ρ) → SubAt ρ s v (subSlices ρ s x cs) n (cutsOf n cs p).1
  | [], _, _, h, _ => h
  | c :: r, x, p, h, hvc => by
    simp only [cutsOf] at hvc ⊢
    obtain ⟨h1, h2⟩ := mem_app hvc
    exact cutsOf_spec r _ _ (h.step c h1).1 h2

theorem sli_whole {md : Bool} {t s n : Nat} {v : Value} {cs : List Value} {S : Nat → Prop} (h : (sliHP md t s v n cs).p w S) : ∃ a c, v = .slice a n c ∧ n ≤ c := by
  obtain ⟨h0, _⟩ := h
  cases md with
  | true =>
    simp only [if_true] at h0
    rcases h0.2 with ⟨rfl, rfl⟩ | ⟨g, o, cap, cur, rfl, _, hnc, _⟩
    · exact ⟨_, _, rfl, Nat.le_refl _⟩
    · exact ⟨_, _, rfl, hnc⟩
  | false =>
    simp only [Bool.false_eq_true, if_false] at h0
    obtain ⟨_, a, m, c', rfl, rfl, hmc, _⟩ := h0
    exact ⟨_, _, rfl, hmc⟩

/-- What is known of a slice that was found. -/
theorem rootSV_spec {x : SV} {r : Rt} (h : rootSV hp x = some r) (hrd : Reads hp ρ w S [r.j]) (hvc : ∀ b ∈ r.vcs, b.prop ρ) :
    hp[r.j]? = some (.sli r.md r.v r.t r.s r.n r.cols) ∧ SubAt ρ r.s (ρ.vv.getD r.v V1.nil).v (x.val ρ) r.n r.p := by
  unfold rootSV at h
  split at h
  · rename_i v
    split at h
    · rename_i j md v' t s n cols hf
      cases h
      obtain ⟨hj, hat⟩ := findOwn_spec hf
      simp only [Ck.ownOf, beq_iff_eq] at hat
      subst hat
      have hS := hrd j (by simp) _ hj
      exact ⟨hj, SubAt.whole (sli_whole hS)⟩
    · cases h
  · rename_i v cs s'
    split at h
    · rename_i j md v' t s n cols hf
      split at h
      · rename_i hs
        subst hs
        cases h
        obtain ⟨hj, hat⟩ := findOwn_spec hf
        simp only [Ck.ownOf, beq_iff_eq] at hat
        subst hat
        have hS := hrd j (by simp) _ hj
        exact ⟨hj, cutsOf_spec cs _ _ (SubAt.whole (sli_whole hS)) hvc⟩
      · cases h
    · cases h
  · cases h

end
end Go.RX

namespace Go.RX

/-- An operand that may be missing, and what number it is. -/
def OptInt : Option Value → Option Int → Prop
  | none, none => True
  | some v, some i => ∃ k, v = .int k i
  | _, _ => False

section
variable {P : Program} {ρ : Env} {w : World} {look : Nat → Option SV} {vals : Operand → Value} {hp : List Ck} {S : Nat → Nat → Prop} {nb nv : Nat} {T : List TI}

theorem intOpt_spec (hops : OpsOk ρ look vals) {o : Option Operand} {l : Option E} (h : intOpt look o = some l) : OptInt (o.map vals) (l.map fun e : E => e.den ρ 0) := by
  unfold intOpt at h
  split at h
  · cases h; exact True.intro
  · split at h
    · rename_i k e he
      cases h
      exact ⟨k, opEval_spec hops he⟩
    · cases h

theorem run_bounds (isS : Bool) (N C : Nat) {lo hi mx : Option Value} {l h m : Option Int} (hl : OptInt lo l) (hh : OptInt hi h) (hm : OptInt mx m) (hx : m.isSome = true → h.isSome = true)
    (h0 : 0 ≤ l.getD 0) (h1 : l.getD 0 ≤ h.getD (N : Int)) (h2 : ∀ x, m = some x → h.getD (N : Int) ≤ x ∧ x ≤ C) (h3 : m = none → h.getD (N : Int) ≤ C) :
    (Instr.sliceBounds isS N C lo hi mx).run P w = .ok ((l.getD 0).toNat, (h.getD (N : Int)).toNat, (m.map Int.toNat).getD C) w := by
  have hb := fun (k : IntKind) (i : Int) (y : Nat) (code : BoundsCode) (a : 0 ≤ i) (b : i ≤ y) => run_sliceBound (P := P) (w := w) k i y code a b
  cases m with
  | none =>
    have h3 := h3 rfl
    cases mx with
    | some v => exact hm.elim
    | none =>
      cases h with
      | none =>
        cases hi with
        | some v => exact hh.elim
        | none =>
          cases l with
          | none =>
            cases lo with
            | some v => exact hl.elim
            | none => simp [Instr.sliceBounds]
          | some l =>
            cases lo with
            | none => exact hl.elim
            | some v =>
              obtain ⟨k, rfl⟩ := hl
              simp only [Option.getD_some, Option.getD_none] at h0 h1
              simp [Instr.sliceBounds, hb k l N _ h0 h1]
      | some h =>
        cases hi with
        | none => exact hh.elim
        | some v =>
          obtain ⟨kh, rfl⟩ := hh
          simp only [Option.getD_some] at h1 h3
          have hhn : (h.toNat : Int) = h := Int.toNat_of_nonneg (by omega)
          cases l with
          | none =>
            cases lo with
            | some v => exact hl.elim
            | none =>
              simp only [Option.getD_none] at h1
              simp [Instr.sliceBounds, hb kh h C _ h1 h3]
          | some l =>
            cases lo with
            | none => exact hl.elim
            | some v =>
              obtain ⟨k, rfl⟩ := hl
              simp only [Option.getD_some] at h0 h1
              simp [Instr.sliceBounds, hb kh h C _ (by omega) h3, hb k l h.toNat _ h0 (by omega)]
  | some m =>
    obtain ⟨g2, g3⟩ := h2 m rfl
    cases mx with
    | none => exact hm.elim
    | some v =>
      obtain ⟨km, rfl⟩ := hm
      cases h with
      | none => simp at hx
      | some h =>
        cases hi with
        | none => exact hh.elim
        | some v =>
          obtain ⟨kh, rfl⟩ := hh
          simp only [Option.getD_some] at h1 g2
          cases l with
          | none =>
            cases lo with
            | some v => exact hl.elim
            | none =>
              simp only [Option.getD_none] at h1
              simp [Instr.sliceBounds, hb km m C _ (by omega) g3, hb kh h m.toNat _ (by omega) (by omega)]
          | some l =>
            cases lo with
            | none => exact hl.elim
            | some v =>
              obtain ⟨k, rfl⟩ := hl
              simp only [Option.getD_some] at h0 h1
              simp [Instr.sliceBounds, hb km m C _ (by omega) g3, hb kh h m.toNat _ (by omega) (by omega), hb k l h.toNat _ h0 (by omega)]

theorem run_slice_of (hT : checkT P T = true) {t : TypeId} {tt te : TI} (ht : tlook T t = some tt) {e : Nat} (hk : tt.k = .slice e) (hte : tlook T e = some te)
    (a : Option Addr) (N C : Nat) {lo hi mx : Option Value} {l h m : Option Int} (hl : OptInt lo l) (hh : OptInt hi h) (hm : OptInt mx m) (hx : m.isSome = true → h.isSome = true)
    (h0 : 0 ≤ l.getD 0) (h1 : l.getD 0 ≤ h.getD (N : Int)) (h2 : ∀ x, m = some x → h.getD (N : Int) ≤ x ∧ x ≤ C) (h3 : m = none → h.getD (N : Int) ≤ C) :
    (Instr.sliceAt t (.slice a N C) lo hi mx).run P w = .ok (subSlice te.size (.slice a N C) (l.getD 0).toNat (h.getD (N : Int)).toNat (m.map Int.toNat)) w := by
  obtain ⟨rfl, hts⟩ := tlook_spec hT ht
  obtain ⟨rfl, hti⟩ := tlook_spec hT hte
  have hkk := hts.kind
  rw [hk] at hkk
  have hu := kind_slice hkk
  have := run_bounds (P := P) (w := w) true N C hl hh hm hx h0 h1 h2 h3
  simp [Instr.sliceAt, Instr.slice, run_underlying hu, this, hti.sizeOf w, subSlice]

theorem run_slice_arr (hT : checkT P T = true) {t : TypeId} {tt te : TI} (ht : tlook T t = some tt) {n e : Nat} (hk : tt.k = .arr n e) (hte : tlook T e = some te)
    (a : Addr) {lo hi mx : Option Value} {l h m : Option Int} (hl : OptInt lo l) (hh : OptInt hi h) (hm : OptInt mx m) (hx : m.isSome = true → h.isSome = true)
    (h0 : 0 ≤ l.getD 0) (h1 : l.getD 0 ≤ h.getD (n : Int)) (h2 : ∀ x, m = some x → h.getD (n : Int) ≤ x ∧ x ≤ n) (h3 : m = none → h.getD (n : Int) ≤ n) :
    (Instr.sliceAt t (.pointer (some a)) lo hi mx).run P w = .ok (subSlice te.size (.slice (some a) n n) (l.getD 0).toNat (h.getD (n : Int)).toNat (m.map Int.toNat)) w := by
  obtain ⟨rfl, hts⟩ := tlook_spec hT ht
  obtain ⟨rfl, hti⟩ := tlook_spec hT hte
  have hkk := hts.kind
  rw [hk] at hkk
  have hu := kind_arr hkk
  have := run_bounds (P := P) (w := w) false n n hl hh hm hx h0 h1 h2 h3
  simp only [Instr.sliceAt, Sem.run_bind, run_underlying hu, Result.andThen_ok, Instr.sureAddr, Sem.run_pure, this, hti.sizeOf w, subSlice]
  congr 2
  split <;> simp

/-- A part of a row, cut out. -/
theorem sub_row (b i0 n0 m0 s : Nat) (l h : Int) (m : Int) (h0 : 0 ≤ l) (h1 : l ≤ h) (h2 : h ≤ m) (h3 : l = 0 ∨ l < m) :
    subSlice s (.slice (some ⟨b, i0 * s, none⟩) n0 m0) l.toNat h.toNat (some m.toNat) = .slice (some ⟨b, (i0 + l.toNat) * s, none⟩) (h - l).toNat (m - l).toNat := by
  simp only [subSlice, Option.getD_some]
  congr 1
  · rcases h3 with rfl | h3
    · simp [addr_add_zero]
    · rw [if_neg (by omega), Option.map_some, addr_add_lit, Nat.add_mul]
  · omega
  · omega

theorem den_getD (o : Option E) (d : E) : (o.getD d).den ρ 0 = (o.map fun e : E => e.den ρ 0).getD (d.den ρ 0) := by cases o <;> rfl

theorem sliceVal_val {x v : SV} {c : Cut} {s : Nat} (h : sliceVal x c s = some v) :
    v.val ρ = subSlice s (x.val ρ) (c.lo.den ρ 0).toNat (c.hi.den ρ 0).toNat (c.mx.map fun m => (m.den ρ 0).toNat) := by
  unfold sliceVal at h
  split at h
  · cases h; rfl
  · split at h
    · rename_i hs
      subst hs
      cases h
      simp only [SV.val, subSlices_append]
      rfl
    · cases h
  · cases h

theorem low_ok {l mm : E} (h : ∀ b ∈ (if l = .lit 0 then [] else [bLt l mm].filter fun b => b != .lit true), b.prop ρ) : l.den ρ 0 = 0 ∨ l.den ρ 0 < mm.den ρ 0 := by
  split at h
  · rename_i hl
    subst hl
    exact .inl rfl
  · exact .inr (bLt_filter_prop h)

theorem subSlice_top (s : Nat) (a : Option Addr) (N C l h : Nat) : subSlice s (.slice a N C) l h none = subSlice s (.slice a N C) l h (some C) := rfl

theorem sliceSym_sound (hT : checkT P T = true) {t : TypeId} {tt : TI} (htt : tlook T t = some tt) {x : SV} {l h m : Option E} {res : Res} (hs : sliceSym T hp tt.k x l h m = some res)
    {lo hi mx : Option Value} (hl : OptInt lo (l.map fun e : E => e.den ρ 0)) (hh : OptInt hi (h.map fun e : E => e.den ρ 0)) (hm : OptInt mx (m.map fun e : E => e.den ρ 0))
    (hrd : Reads hp ρ w S res.rd) (hvc : ∀ b ∈ res.vcs, b.prop ρ) :
    (Instr.sliceAt t (x.val ρ) lo hi mx).run P w = .ok (res.val.val ρ) w ∧ res.eff = .none := by
  unfold sliceSym at hs
  split at hs
  · cases hs
  · rename_i hmx
    have hx : (m.map fun e : E => e.den ρ 0).isSome = true → (h.map fun e : E => e.den ρ 0).isSome = true := by
      cases m <;> cases h <;> simp_all
    split at hs
    · rename_i e b i s n cap hk
      split at hs
      · rename_i te hte
        split at hs
        · rename_i hsz
          subst hsz
          simp only [Option.some.injEq] at hs
          subst hs
          refine ⟨?_, rfl⟩
          simp only at hvc
          obtain ⟨hvc, q6⟩ := mem_app hvc
          obtain ⟨hvc, q5⟩ := mem_app hvc
          obtain ⟨hvc, q4⟩ := mem_app hvc
          obtain ⟨hvc, q3⟩ := mem_app hvc
          obtain ⟨hvc, q2⟩ := mem_app hvc
          obtain ⟨q0, q1⟩ := mem_app hvc
          have q0 := bLe'_prop q0
          have q1 := bLe'_prop q1
          have q2 := bLe'_prop q2
          have q3 := bLe'_prop q3
          have q4 := bLe'_prop q4
          have q5 := bLe'_prop q5
          have q6 := low_ok q6
          simp only [den_getD, E.den] at q0 q1 q2 q3 q4 q5 q6
          have e1 : (SV.sl b i te.size n cap).val ρ = .slice (some ⟨ρ.bv.getD b 0, (i.den ρ 0).toNat * te.size, none⟩) (n.den ρ 0).toNat (cap.den ρ 0).toNat := rfl
          have hNn : ((n.den ρ 0).toNat : Int) = n.den ρ 0 := Int.toNat_of_nonneg q5
          have hrun := run_slice_of (P := P) (w := w) hT htt hk hte (some ⟨ρ.bv.getD b 0, (i.den ρ 0).toNat * te.size, none⟩) (n.den ρ 0).toNat (cap.den ρ 0).toNat hl hh hm hx q1 (by rw [hNn]; exact q2)
            (fun x hx => by rw [hx] at q3 q4; rw [hNn]; simp only [Option.getD_some] at q3 q4; exact ⟨q3, by omega⟩) (fun hx => by rw [hx] at q3; rw [hNn]; simp only [Option.getD_none] at q3; omega)
          rw [e1, hrun, hNn]
          congr 1
          have hmm : subSlice te.size (.slice (some ⟨ρ.bv.getD b 0, (i.den ρ 0).toNat * te.size, none⟩) (n.den ρ 0).toNat (cap.den ρ 0).toNat) ((l.map fun e : E => e.den ρ 0).getD 0).toNat
              ((h.map fun e : E => e.den ρ 0).getD (n.den ρ 0)).toNat ((m.map fun e : E => e.den ρ 0).map Int.toNat) =
              subSlice te.size (.slice (some ⟨ρ.bv.getD b 0, (i.den ρ 0).toNat * te.size, none⟩) (n.den ρ 0).toNat (cap.den ρ 0).toNat) ((l.map fun e : E => e.den ρ 0).getD 0).toNat
              ((h.map fun e : E => e.den ρ 0).getD (n.den ρ 0)).toNat (some ((m.map fun e : E => e.den ρ 0).getD (cap.den ρ 0)).toNat) := by
            cases m <;> rfl
          rw [hmm, sub_row _ _ _ _ _ _ _ _ q1 q2 q3 q6]
          simp only [SV.val, eAdd_den, eSub_den, den_getD, E.den]
          congr 4
          omega
        · cases hs
      · cases hs
    · rename_i e hk
      split at hs
      · rename_i te hte
        split at hs
        · rename_i hz
          cases hs
          obtain ⟨z1, z2, z3⟩ := hz
          refine ⟨?_, rfl⟩
          have g1 : (l.map fun e : E => e.den ρ 0).getD 0 = 0 := by cases l with | none => rfl | some l => simp only [Option.getD_some] at z1; subst z1; rfl
          have g2 : (h.map fun e : E => e.den ρ 0).getD 0 = 0 := by cases h with | none => rfl | some l => simp only [Option.getD_some] at z2; subst z2; rfl
          have g3 : (m.map fun e : E => e.den ρ 0).getD 0 = 0 := by cases m with | none => rfl | some l => simp only [Option.getD_some] at z3; subst z3; rfl
          have hrun := run_slice_of (P := P) (w := w) hT htt hk hte none 0 0 hl hh hm hx (by rw [g1]; exact Int.le_refl _) (by rw [g1]; simp only [Int.natCast_zero, g2]; exact Int.le_refl _)
            (fun x hx => by rw [hx] at g3; simp only [Option.getD_some] at g3; subst g3; simp only [Int.natCast_zero, g2]; exact ⟨Int.le_refl _, Int.le_refl _⟩) (fun _ => by simp only [Int.natCast_zero, g2]; exact Int.le_refl _)
          rw [show (SV.nils).val ρ = .slice none 0 0 from rfl, hrun]
          congr 1
          simp only [g1, Int.natCast_zero, g2]
          cases m with
          | none => simp [subSlice]
          | some m => simp only [Option.map_some, Option.getD_some] at g3; simp [subSlice, g3]
        · cases hs
      · cases hs
    · rename_i e hk _ _
      split at hs
      · rename_i te r hte hr
        split at hs
        · rename_i hsz
          dsimp only at hs
          split at hs
          · rename_i v hv
            cases hs
            refine ⟨?_, rfl⟩
            simp only at hvc
            obtain ⟨hv1, hv2⟩ := mem_app hvc
            obtain ⟨hj, hsub⟩ := rootSV_spec hr hrd hv1
            obtain ⟨h1, h2, h3, h4, a, N, C, hxv, hN, hC, hCm⟩ := hsub.step _ hv2
            rw [sliceVal_val hv, hxv]
            simp only [den_getD, E.den] at h2 h3 h4 hC ⊢
            have hxN : (h.map fun e : E => e.den ρ 0).getD (r.p.len.den ρ 0) = (h.map fun e : E => e.den ρ 0).getD (N : Int) ∨ (h = none ∧ r.p.len.den ρ 0 ≤ N) := by
              cases h with
              | none => right; exact ⟨rfl, by omega⟩
              | some h => left; rfl
            have hxN : (h.map fun e : E => e.den ρ 0).getD (N : Int) = (h.map fun e : E => e.den ρ 0).getD (r.p.len.den ρ 0) := by
              rcases hxN with h | ⟨rfl, hle⟩
              · exact h.symm
              · simp only [Option.map_none, Option.getD_none] at h3 ⊢
                omega
            have hrun := run_slice_of (P := P) (w := w) hT htt hk hte a N C hl hh hm hx h2 (by rw [hxN]; exact h3)
              (fun x hx => by
                rw [hxN]
                rw [Option.map_eq_some_iff] at hx
                obtain ⟨me, hme, rfl⟩ := hx
                have := h4 me hme
                have := hCm me hme
                exact ⟨h4 me hme, by omega⟩)
              (fun hx => by
                rw [hxN]
                have := hC (by simpa using hx)
                omega)
            rw [hrun, hxN, hsz]
            congr 2
            cases m <;> rfl
          · cases hs
        · cases hs
      · cases hs
    · rename_i n e b c hk
      split at hs
      · rename_i te hte
        split at hs
        · rename_i hsz
          obtain ⟨hsz, hmod⟩ := hsz
          simp only [Option.some.injEq] at hs
          subst hs
          refine ⟨?_, rfl⟩
          simp only at hvc
          obtain ⟨hvc, q6⟩ := mem_app hvc
          obtain ⟨hvc, q4⟩ := mem_app hvc
          obtain ⟨hvc, q3⟩ := mem_app hvc
          obtain ⟨q1, q2⟩ := mem_app hvc
          have q1 := bLe'_prop q1
          have q2 := bLe'_prop q2
          have q3 := bLe'_prop q3
          have q4 := bLe'_prop q4
          have q6 := low_ok q6
          simp only [den_getD, E.den] at q1 q2 q3 q4 q6
          have hc : c = c / te.size * te.size := by
            have := Nat.div_add_mod c te.size
            rw [hmod, Nat.add_zero, Nat.mul_comm] at this
            exact this.symm
          have e1 : (SV.ptr b c).val ρ = .pointer (some ⟨ρ.bv.getD b 0, c / te.size * te.size, none⟩) := by
            rw [← hc]; rfl
          have hrun := run_slice_arr (P := P) (w := w) hT htt hk hte ⟨ρ.bv.getD b 0, c / te.size * te.size, none⟩ hl hh hm hx q1 q2
            (fun x hx => by rw [hx] at q3 q4; simp only [Option.getD_some] at q3 q4; exact ⟨q3, q4⟩) (fun hx => by rw [hx] at q3; simp only [Option.getD_none] at q3; exact q3)
          rw [e1, hrun]
          congr 1
          have hmm : subSlice te.size (.slice (some ⟨ρ.bv.getD b 0, c / te.size * te.size, none⟩) n n) ((l.map fun e : E => e.den ρ 0).getD 0).toNat
              ((h.map fun e : E => e.den ρ 0).getD (n : Int)).toNat ((m.map fun e : E => e.den ρ 0).map Int.toNat) =
              subSlice te.size (.slice (some ⟨ρ.bv.getD b 0, c / te.size * te.size, none⟩) n n) ((l.map fun e : E => e.den ρ 0).getD 0).toNat
              ((h.map fun e : E => e.den ρ 0).getD (n : Int)).toNat (some ((m.map fun e : E => e.den ρ 0).getD (n : Int)).toNat) := by
            cases m <;> simp [subSlice]
          rw [hmm, sub_row _ _ _ _ _ _ _ _ q1 q2 q3 q6]
          simp only [SV.val, eAdd_den, eSub_den, den_getD, E.den]
          congr 4
          generalize c / te.size = q
          omega
        · cases hs
      · cases hs
    · cases hs

end
end Go.RX

namespace Go.RX

/-- A table by its rows. -/
def tabF (f : Nat → List Value) (n : Nat) : List Value := (List.range n).flatMap f
theorem tabF_add (f : Nat → List Value) (a b : Nat) : tabF f (a + b) = tabF f a ++ tabF (fun i => f (a + i)) b := by
  unfold tabF
  rw [List.range_add, List.flatMap_append, List.flatMap_map]
theorem tabF_length {f : Nat → List Value} {s : Nat} (hf : ∀ i, (f i).length = s) (n : Nat) : (tabF f n).length = n * s := by
  induction n with
  | zero => simp [tabF]
  | succ n ih =>
    rw [tabF_add, List.length_append, ih]
    simp [tabF, hf, Nat.add_mul]
theorem tabF_congr {f g : Nat → List Value} {n : Nat} (h : ∀ i, i < n → f i = g i) : tabF f n = tabF g n := by
  unfold tabF
  rw [List.flatMap_def, List.flatMap_def]
  congr 1
  exact List.map_congr_left fun i hi => h i (List.mem_range.1 hi)
theorem tabF_cut {f : Nat → List Value} {s : Nat} (hf : ∀ i, (f i).length = s) (n L N : Nat) (h : L + N ≤ n) :
    ((tabF f n).drop (L * s)).take (N * s) = tabF (fun i => f (L + i)) N := by
  obtain ⟨d, rfl⟩ : ∃ d, n = L + N + d := ⟨n - (L + N), by omega⟩
  rw [tabF_add, tabF_add]
  have h1 := tabF_length hf L
  have h2 : (tabF (fun i => f (L + i)) N).length = N * s := tabF_length (fun i => hf (L + i)) N
  generalize tabF f L = A at h1 ⊢
  generalize tabF (fun i => f (L + i)) N = B at h2 ⊢
  rw [List.append_assoc, List.drop_append, List.drop_of_length_le (l := A) (by omega), h1, Nat.sub_self, List.drop_zero, List.nil_append, List.take_append_of_le_length (by omega), List.take_of_length_le (by omega)]
/-- Rows put in the place of others. -/
theorem tabF_spl {f g h : Nat → List Value} {s : Nat} (hf : ∀ i, (f i).length = s) (n a m : Nat) (hle : a + m ≤ n) (hh : ∀ i, h i = if a ≤ i ∧ i < a + m then g (i - a) else f i) :
    tabF h n = (tabF f n).take (a * s) ++ tabF g m ++ (tabF f n).drop (a * s + m * s) := by
  obtain ⟨d, rfl⟩ : ∃ d, n = a + m + d := ⟨n - (a + m), by omega⟩
  have e1 : tabF h a = tabF f a := tabF_congr fun i hi => by rw [hh, if_neg (by omega)]
  have e2 : tabF (fun i => h (a + i)) m = tabF g m := tabF_congr fun i hi => by rw [hh, if_pos (by omega)]; congr 1; omega
  have e3 : tabF (fun i => h (a + m + i)) d = tabF (fun i => f (a + m + i)) d := tabF_congr fun i hi => by rw [hh, if_neg (by omega)]
  rw [tabF_add h, tabF_add h, e1, e2, e3, tabF_add f, tabF_add f]
  have h1 := tabF_length hf a
  have h2 : (tabF (fun i => f (a + i)) m).length = m * s := tabF_length (fun i => hf (a + i)) m
  generalize tabF f a = A at h1 ⊢
  generalize tabF (fun i => f (a + i)) m = B at h2 ⊢
  rw [List.append_assoc A B, List.take_append_of_le_length (by omega), List.take_of_length_le (l := A) (by omega), List.drop_append, List.drop_of_length_le (l := A) (by omega), h1,
    show a * s + m * s - a * s = m * s by omega, List.drop_append, List.drop_of_length_le (l := B) (by omega), h2, Nat.sub_self, List.drop_zero, List.nil_append, List.nil_append]

section
variable {P : Program} {ρ : Env} {w : World} {look : Nat → Option SV} {vals : Operand → Value} {hp : List Ck} {S : Nat → Nat → Prop} {nb nv : Nat} {T : List TI}

theorem tabCells_eq (n : Nat) (cols : List Col) : tabCells ρ n cols = tabF (rowAt ρ cols) n := rfl

theorem shiftCols_spec {lo : E} (h0 : 0 ≤ lo.den ρ 0) : ∀ {cols cols' : List Col}, shiftCols lo cols = some cols' →
    colsW cols' = colsW cols ∧ ∀ i : Nat, rowAt ρ cols' i = rowAt ρ cols ((lo.den ρ 0).toNat + i)
  | [], cols', h => by
    simp [shiftCols] at h
    subst h
    exact ⟨rfl, fun _ => rfl⟩
  | c :: r, cols', h => by
    unfold shiftCols at h
    split at h
    · rename_i c' r' h1 h2
      cases h
      obtain ⟨i1, i2⟩ := shiftCols_spec h0 h2
      have hc : c'.w = c.w ∧ ∀ i, c'.cells ρ i = c.cells ρ ((lo.den ρ 0).toNat + i) := by
        obtain ⟨ck, cw, a⟩ := c
        unfold shiftCol at h1
        cases ck with
        | int k =>
          simp only [Option.some.injEq] at h1
          subst h1
          refine ⟨rfl, fun i => ?_⟩
          simp only [Col.cells, colI]
          apply segCells_congr
          intro j _
          rw [eShift_den, eMul_den]
          simp only [E.den]
          rw [toNat_mul]
          congr 1
          rw [Nat.add_mul]; omega
        | bool =>
          simp only [Option.some.injEq] at h1
          subst h1
          refine ⟨rfl, fun i => ?_⟩
          simp only [Col.cells, colB]
          apply List.map_congr_left
          intro j _
          rw [eShift_den, eMul_den]
          simp only [E.den]
          rw [toNat_mul]
          rw [show (lo.den ρ 0).toNat * cw + (i * cw + j) = ((lo.den ρ 0).toNat + i) * cw + j by rw [Nat.add_mul]; omega]
        | ptr =>
          simp only [Option.some.injEq] at h1
          subst h1
          refine ⟨rfl, fun i => ?_⟩
          simp only [Col.cells, colP]
          apply List.map_congr_left
          intro j _
          rw [eShift_den, eMul_den]
          simp only [E.den]
          rw [toNat_mul]
          rw [show (lo.den ρ 0).toNat * cw + (i * cw + j) = ((lo.den ρ 0).toNat + i) * cw + j by rw [Nat.add_mul]; omega]
        | nils =>
          simp only [Option.some.injEq] at h1
          subst h1
          exact ⟨rfl, fun i => rfl⟩
        | val v =>
          simp only at h1
          split at h1
          · rename_i hlo
            cases h1
            subst hlo
            refine ⟨rfl, fun i => ?_⟩
            simp [Col.cells, E.den]
          · cases h1
        | str =>
          simp only at h1
          split at h1
          · rename_i hlo
            cases h1
            subst hlo
            refine ⟨rfl, fun i => ?_⟩
            simp [Col.cells, E.den]
          · cases h1
      refine ⟨?_, fun i => ?_⟩
      · simp only [colsW, List.map_cons, List.sum_cons, hc.1] at i1 ⊢; omega
      · simp only [rowAt, List.map_cons, List.flatMap_cons] at i2 ⊢
        rw [hc.2, i2]
    · cases h

theorem splCol_spec {at_ m : E} (h0 : 0 ≤ at_.den ρ 0) (hm : 0 ≤ m.den ρ 0) {d s c : Col} (h : splCol at_ m d s = some c) :
    c.w = d.w ∧ s.w = d.w ∧ ∀ i : Nat, c.cells ρ i = if (at_.den ρ 0).toNat ≤ i ∧ i < (at_.den ρ 0).toNat + (m.den ρ 0).toNat then s.cells ρ (i - (at_.den ρ 0).toNat) else d.cells ρ i := by
  obtain ⟨dk, dw, da⟩ := d
  obtain ⟨sk, sw, sa⟩ := s
  unfold splCol at h
  split at h
  · cases h
  · rename_i hw
    simp only [ne_eq, Decidable.not_not] at hw
    subst hw
    have key : ∀ (i j : Nat), j < dw → (E.spl da (eMul at_ (.lit dw)) (eMul m (.lit dw)) sa).den ρ (i * dw + j) =
        if (at_.den ρ 0).toNat ≤ i ∧ i < (at_.den ρ 0).toNat + (m.den ρ 0).toNat then sa.den ρ ((i - (at_.den ρ 0).toNat) * dw + j) else da.den ρ (i * dw + j) := by
      intro i j hj
      simp only [E.den, eMul_den, toNat_mul]
      generalize (at_.den ρ 0).toNat = A
      generalize (m.den ρ 0).toNat = M
      by_cases hc : A ≤ i ∧ i < A + M
      · obtain ⟨h1, h2⟩ := hc
        obtain ⟨d, rfl⟩ : ∃ d, i = A + d := ⟨i - A, by omega⟩
        have hd : d + 1 ≤ M := by omega
        have := Nat.mul_le_mul_right dw hd
        rw [Nat.add_mul] at this
        have L1 : A * dw ≤ (A + d) * dw + j ∧ (A + d) * dw + j < A * dw + M * dw := by rw [Nat.add_mul]; omega
        rw [if_pos L1, if_pos ⟨by omega, by omega⟩]
        congr 1
        rw [show A + d - A = d by omega, Nat.add_mul]
        omega
      · rw [if_neg hc, if_neg]
        intro hc'
        apply hc
        constructor
        · apply Nat.le_of_not_lt
          intro hlt
          have := Nat.mul_le_mul_right dw (Nat.succ_le_of_lt hlt)
          rw [Nat.succ_mul] at this
          omega
        · apply Nat.lt_of_not_le
          intro hle
          have := Nat.mul_le_mul_right dw hle
          rw [Nat.add_mul] at this
          omega
    split at h
    · split at h
      · rename_i k k' hk hk' hkk
        simp only at hk hk'
        subst hk hk' hkk
        cases h
        refine ⟨rfl, rfl, fun i => ?_⟩
        simp only [Col.cells, colI]
        split
        · rename_i hc
          apply segCells_congr
          intro j hj
          rw [key i j hj, if_pos hc]
        · rename_i hc
          apply segCells_congr
          intro j hj
          rw [key i j hj, if_neg hc]
      · cases h
    · rename_i hk hk'
      simp only at hk hk'
      subst hk hk'
      cases h
      refine ⟨rfl, rfl, fun i => ?_⟩
      simp only [Col.cells, colB]
      split
      · rename_i hc
        apply List.map_congr_left
        intro j hj
        rw [key i j (List.mem_range.1 hj), if_pos hc]
      · rename_i hc
        apply List.map_congr_left
        intro j hj
        rw [key i j (List.mem_range.1 hj), if_neg hc]
    · rename_i hk hk'
      simp only at hk hk'
      subst hk hk'
      cases h
      refine ⟨rfl, rfl, fun i => ?_⟩
      simp only [Col.cells, colP]
      split
      · rename_i hc
        apply List.map_congr_left
        intro j hj
        rw [key i j (List.mem_range.1 hj), if_pos hc]
      · rename_i hc
        apply List.map_congr_left
        intro j hj
        rw [key i j (List.mem_range.1 hj), if_neg hc]
    · rename_i hk hk'
      simp only at hk hk'
      subst hk hk'
      cases h
      refine ⟨rfl, rfl, fun i => ?_⟩
      simp only [Col.cells, colV]
      split <;> first | rfl | (simp only [hw]) | (congr 1)
    · rename_i hk hk'
      simp only at hk hk'
      subst hk hk'
      split at h
      · rename_i hc
        obtain ⟨rfl, hw1⟩ := hc
        simp only at hw1
        subst hw1
        cases h
        refine ⟨rfl, rfl, fun i => ?_⟩
        by_cases hi : i = (at_.den ρ 0).toNat
        · rw [if_pos (by rw [den_lit, hi]; constructor <;> simp)]
          simp [Col.cells, colV, den_put2, at2_put2, eAt2_den, den_lit, hi]
        · rw [if_neg (by rw [den_lit]; intro hc; apply hi; have := hc.2; simp at this; omega)]
          simp [Col.cells, colV, den_put2, at2_put2, hi]
      · split at h
        · rename_i hm0
          subst hm0
          cases h
          refine ⟨rfl, rfl, fun i => ?_⟩
          rw [if_neg (by simp only [den_lit]; intro hc; have := hc.2; simp at this; omega)]
        · cases h
    · cases h

theorem splCols_spec {at_ m : E} (h0 : 0 ≤ at_.den ρ 0) (hm : 0 ≤ m.den ρ 0) : ∀ {d s c : List Col}, splCols at_ m d s = some c →
    colsW c = colsW d ∧ colsW s = colsW d ∧
      ∀ i : Nat, rowAt ρ c i = if (at_.den ρ 0).toNat ≤ i ∧ i < (at_.den ρ 0).toNat + (m.den ρ 0).toNat then rowAt ρ s (i - (at_.den ρ 0).toNat) else rowAt ρ d i
  | [], [], c, h => by
    simp [splCols] at h
    subst h
    exact ⟨rfl, rfl, fun _ => by simp [rowAt]⟩
  | [], _ :: _, c, h => by simp [splCols] at h
  | _ :: _, [], c, h => by simp [splCols] at h
  | d :: r, s :: r', c, h => by
    unfold splCols at h
    split at h
    · rename_i a b h1 h2
      cases h
      obtain ⟨p1, p2, p3⟩ := splCol_spec h0 hm h1
      obtain ⟨q1, q2, q3⟩ := splCols_spec h0 hm h2
      simp only [colsW, List.map_cons, List.sum_cons] at q1 q2 ⊢
      refine ⟨by omega, by omega, fun i => ?_⟩
      simp only [rowAt, List.map_cons, List.flatMap_cons] at q3 ⊢
      rw [p3, q3]
      split <;> rfl
    · cases h

theorem putRows_spec {s : Nat} : ∀ (k i : Nat) {cs : List SV} {cols cols' : List Col}, putRows s k i cs cols = some cols' → s = colsW cols →
    colsW cols' = colsW cols ∧ (∀ i' : Nat, i' < i → rowAt ρ cols' i' = rowAt ρ cols i') ∧ tabF (fun j => rowAt ρ cols' (i + j)) k = (SV.cellsL ρ cs).take (k * s)
  | 0, i, cs, cols, cols', h, hs => by
    simp [putRows] at h
    subst h
    simp [tabF]
  | k + 1, i, cs, cols, cols', h, hs => by
    unfold putRows at h
    split at h
    · rename_i a b h1 h2
      split at h
      · rename_i cols1 h3
        obtain ⟨p1, p2, p3, p4⟩ := colPuts_spec ρ h3
        obtain ⟨q1, q2, q3⟩ := putRows_spec k (i + 1) h (by omega)
        have e0 : ((E.lit (i : Int)).den ρ 0).toNat = i := by simp [E.den]
        rw [e0] at p3 p4
        obtain ⟨c1, c2⟩ := rowCut_cells ρ h1
        have c3 := rowDrop_cells ρ _ _ _ h2
        rw [List.drop_zero] at c1
        rw [Nat.zero_add] at c2
        have hal : (SV.cellsL ρ a).length = s := by rw [c1, List.length_take]; omega
        refine ⟨by omega, fun i' hi => by rw [q2 i' (by omega), p3 i' (by omega)], ?_⟩
        rw [Nat.add_comm k 1, tabF_add]
        have e1 : tabF (fun j => rowAt ρ cols' (i + j)) 1 = SV.cellsL ρ a := by
          have : rowAt ρ cols' i = SV.cellsL ρ a := by
            rw [q2 i (by omega), p4, List.drop_eq_nil_of_le, List.append_nil]
            rw [show (rowAt ρ cols i).length = colsW cols from row_length ρ cols _]
            omega
          simp [tabF, this]
        have e2 : tabF (fun j => rowAt ρ cols' (i + (1 + j))) k = tabF (fun j => rowAt ρ cols' (i + 1 + j)) k := tabF_congr fun j _ => by rw [Nat.add_assoc]
        rw [e1, e2, q3, c3, c1, Nat.add_mul, Nat.one_mul, List.take_add]
      · cases h
    · cases h

/-- The first cells of a slice value. -/
def World.rdRow (w : World) (v : Value) (n : Nat) (cs : List Value) : Prop :=
  ∃ a c, v = .slice a n c ∧ (a = none → n = 0) ∧ ∀ ad, a = some ad → ∀ (j : Nat) u, cs[j]? = some u → w.cell? (ad.add j) = some u

/-- The rows of a slice, as they are read. -/
structure SrcAt (ρ : Env) (w : World) (v : Value) (s : Nat) (n : E) (cols : List Col) : Prop where
  nn : 0 ≤ n.den ρ 0
  wd : colsW cols = s
  rd : World.rdRow w v (n.den ρ 0).toNat (tabCells ρ (n.den ρ 0).toNat cols)

theorem sli_rd {md : Bool} {t s n : Nat} {v : Value} {cs : List Value} {S : Nat → Prop} (h : (sliHP md t s v n cs).p w S) : World.rdRow w v n cs ∧ cs.length = n * s := by
  obtain ⟨h0, _⟩ := h
  cases md with
  | true =>
    simp only [if_true] at h0
    have h00 := h0
    obtain ⟨hl, hr⟩ := h0
    refine ⟨?_, hl⟩
    rcases hr with ⟨rfl, rfl⟩ | ⟨g, o, cap, cur, rfl, hg, hnc, _⟩
    · exact ⟨none, 0, rfl, fun _ => rfl, by simp⟩
    · refine ⟨_, cap, rfl, by simp, ?_⟩
      rintro _ ⟨⟩
      exact fun j u hu => ownsAt_cells h00 j u hu
  | false =>
    simp only [Bool.false_eq_true, if_false] at h0
    obtain ⟨hl, a, m, c, rfl, rfl, _, hnil, hr⟩ := h0
    exact ⟨⟨a, c, rfl, hnil, fun ad had => (hr ad had).2⟩, hl⟩

theorem sub_rd {s : Nat} {v x : Value} {n : E} {p : Part} {cs : List Value} (h : SubAt ρ s v x n p) (hv : World.rdRow w v (n.den ρ 0).toNat cs) :
    World.rdRow w x (p.len.den ρ 0).toNat ((cs.drop ((p.lo.den ρ 0).toNat * s)).take ((p.len.den ρ 0).toNat * s)) := by
  obtain ⟨h1, h2, h3, a, c, k, rfl, hc, rfl, hk⟩ := h
  obtain ⟨a', c', he, hnil, hr⟩ := hv
  cases he
  have htop : (p.lo.den ρ 0).toNat + (p.len.den ρ 0).toNat ≤ ((p.mx.map fun m => m.den ρ 0).map Int.toNat).getD c ∨ (p.len.den ρ 0).toNat = 0 := by
    cases hm : (p.mx.map fun m => m.den ρ 0) with
    | none => simp only [Option.map_none, Option.getD_none]; omega
    | some m => have := h3 m hm; simp only [Option.map_some, Option.getD_some]; omega
  refine ⟨_, _, rfl, ?_, ?_⟩
  · intro hn
    cases a with
    | none => have := hnil rfl; omega
    | some a => cases hn
  · intro ad had
    rw [Option.map_eq_some_iff] at had
    obtain ⟨a0, rfl, rfl⟩ := had
    have hcell := hr a0 rfl
    intro j u hu
    rw [List.getElem?_take] at hu
    split at hu
    · rename_i hj
      have hN : (p.len.den ρ 0).toNat ≠ 0 := by intro h; rw [h, Nat.zero_mul] at hj; omega
      rw [List.getElem?_drop] at hu
      rw [hk (.inl (by omega)), addr_add_add]
      exact hcell _ _ hu
    · cases hu

theorem tab_one (cols : List Col) (n : Nat) : ∀ u ∈ tabCells ρ n cols, u.oneCell' = true := by
  intro u hu
  unfold tabCells tabL at hu
  rw [List.mem_flatMap] at hu
  obtain ⟨i, _, hu⟩ := hu
  rw [List.mem_flatMap] at hu
  obtain ⟨c, hc, hu⟩ := hu
  rw [List.mem_map] at hc
  obtain ⟨⟨ck, cw, a⟩, _, rfl⟩ := hc
  cases ck with
  | int k =>
    simp only [Col.cells, colI, segCells, List.mem_map] at hu
    obtain ⟨_, _, rfl⟩ := hu
    rfl
  | bool =>
    simp only [Col.cells, colB, List.mem_map] at hu
    obtain ⟨_, _, rfl⟩ := hu
    rfl
  | val v =>
    simp only [Col.cells, colV, List.mem_map] at hu
    obtain ⟨j, _, rfl⟩ := hu
    exact V1.one _
  | ptr =>
    simp only [Col.cells, colP, List.mem_map] at hu
    obtain ⟨j, _, rfl⟩ := hu
    exact ptrV_one _
  | nils =>
    simp only [Col.cells, colV, List.mem_map] at hu
    obtain ⟨j, _, rfl⟩ := hu
    rfl
  | str =>
    simp only [Col.cells, colV, List.mem_map] at hu
    obtain ⟨j, _, rfl⟩ := hu
    rfl

theorem root_src {x : SV} {r : Rt} (h : rootSV hp x = some r) (hrd : Reads hp ρ w S [r.j]) (hvc : ∀ b ∈ r.vcs, b.prop ρ) (h0 : 0 ≤ r.p.len.den ρ 0) (hw : r.s = colsW r.cols)
    {cols : List Col} (hc : shiftCols r.p.lo r.cols = some cols) : SrcAt ρ w (x.val ρ) r.s r.p.len cols := by
  obtain ⟨hj, hsub⟩ := rootSV_spec h hrd hvc
  have hS := hrd r.j (by simp) _ hj
  obtain ⟨hv, hl⟩ := sli_rd hS
  obtain ⟨e1, e2⟩ := shiftCols_spec hsub.lo hc
  refine ⟨h0, by omega, ?_⟩
  have := sub_rd hsub hv
  have h2 := hsub.hi
  have h1 := hsub.lo
  rw [tabCells_eq, hw, tabF_cut (row_length ρ r.cols) _ _ _ (by omega)] at this
  rw [tabCells_eq, tabF_congr fun i _ => e2 i]
  exact this

theorem tab_single (k : IntKind) (n : Nat) (a : E) : tabCells ρ n [⟨.int k, 1, a⟩] = segCells k n (a.den ρ) := by
  unfold tabCells tabL segCells
  induction n with
  | zero => rfl
  | succ n ih =>
    rw [List.range_succ, List.flatMap_append, List.map_append, ih]
    simp [Col.cells, colI, segCells]

theorem srcOf_spec {te : TI} {y : SV} {sc : Src} (h : srcOf T hp te y = some sc) (hrd : Reads hp ρ w S sc.rd) (hvc : ∀ b ∈ sc.vcs, b.prop ρ)
    (h0 : 0 ≤ sc.n.den ρ 0) : SrcAt ρ w (y.val ρ) te.size sc.n sc.cols := by
  unfold srcOf at h
  split at h
  · split at h
    · split at h
      · rename_i hw
        cases h
        refine ⟨by simp [E.den], hw.symm, none, 0, by simp [SV.val, E.den], by simp [E.den], by simp⟩
      · cases h
    · cases h
  · rename_i b i s m cap
    split at h
    · rename_i j b' wr cs hf
      obtain ⟨hj, hat⟩ := findAt_spec hf
      simp only [Ck.isAt, beq_iff_eq] at hat
      subst hat
      split at h
      · cases h
      · rename_i hs
        simp only [ne_eq, Decidable.not_not] at hs
        subst hs
        split at h
        · rename_i i0 m0 hi0 hm0
          have di := litNat_den (ρ := ρ) hi0
          have dm := litNat_den (ρ := ρ) hm0
          have hval : (SV.sl b i te.size m cap).val ρ = .slice (some ⟨ρ.bv.getD b 0, i0 * te.size, none⟩) m0 (cap.den ρ 0).toNat := by simp [SV.val, di, dm]
          have base : ∀ (x : List SV), rowCut (i0 * te.size) (m0 * te.size) cs = some x → (rowHP (ρ.bv.getD b 0) wr (SV.cellsL ρ cs)).p w (S j) →
              (SV.cellsL ρ x).length = m0 * te.size ∧ ∀ (k : Nat) u, (SV.cellsL ρ x)[k]? = some u → w.cell? ((⟨ρ.bv.getD b 0, i0 * te.size, none⟩ : Addr).add k) = some u := by
            intro x hx hS
            obtain ⟨c1, c2⟩ := rowCut_cells ρ hx
            refine ⟨by rw [c1, List.length_take, List.length_drop]; omega, fun k u hu => ?_⟩
            rw [c1, List.getElem?_take] at hu
            split at hu
            · exact rowHP_read hS _ k u hu
            · cases hu
          split at h
          · rename_i k N a hx
            split at h
            · rename_i hc
              obtain ⟨hs1, rfl⟩ := hc
              cases h
              obtain ⟨_, hb⟩ := base _ hx (hrd j (by simp) _ hj)
              refine ⟨h0, by simp [colsW, hs1], _, _, hval, by simp, ?_⟩
              rintro _ ⟨⟩ k' u hu
              rw [tab_single] at hu
              refine hb k' u ?_
              simpa [SV.cellsL, SV.cells, E.den] using hu
            · cases h
          · rename_i x _ hx
            split at h
            · split at h
              · rename_i cols0 hcols
                split at h
                · rename_i hw
                  rw [Option.map_eq_some_iff] at h
                  obtain ⟨cols', hp', rfl⟩ := h
                  obtain ⟨hl, hb⟩ := base _ hx (hrd j (by simp) _ hj)
                  obtain ⟨q1, _, q3⟩ := putRows_spec (ρ := ρ) m0 0 hp' hw
                  refine ⟨h0, q1.trans hw.symm, _, _, hval, by simp, ?_⟩
                  rintro _ ⟨⟩ k' u hu
                  refine hb k' u ?_
                  simp only [Nat.zero_add] at q3
                  rw [List.take_of_length_le (by omega)] at q3
                  simp only [E.den, Int.toNat_natCast] at hu
                  rw [tabCells_eq] at hu
                  rw [← q3]
                  exact hu
                · cases h
              · cases h
            · cases h
          · cases h
        · split at h
          · rename_i k N a
            split at h
            · rename_i hs1
              cases h
              simp only at hvc h0
              obtain ⟨v1, v3⟩ := mem_app hvc
              obtain ⟨v1, v2⟩ := mem_app v1
              have v1 := bLe'_prop v1
              have v3 := bLe'_prop v3
              rw [eAdd_den] at v3
              simp only [E.den] at v1 v3
              have hS := hrd j (by simp) _ hj
              refine ⟨h0, by simp [colsW, hs1], _, _, rfl, by simp, ?_⟩
              rintro _ ⟨⟩ k' u hu
              rw [tab_single, segCells_getElem?] at hu
              split at hu
              · rename_i hk
                have hk : k' < (m.den ρ 0).toNat := hk
                simp only [Option.some.injEq] at hu
                refine rowHP_read hS _ k' u ?_
                rw [hs1, Nat.mul_one, List.getElem?_drop]
                simp only [SV.cellsL, SV.cells, List.append_nil]
                rw [segCells_getElem?, if_pos (by omega), ← hu, eShift_den]
              · cases hu
            · cases h
          · cases h
    · cases h
  · split at h
    · rename_i r hr
      split at h
      · rename_i hc
        obtain ⟨hs, hw⟩ := hc
        rw [Option.map_eq_some_iff] at h
        obtain ⟨cols, hcols, rfl⟩ := h
        simp only at hvc h0
        obtain ⟨v1, _⟩ := mem_app hvc
        rw [← hs]
        exact root_src hr hrd v1 h0 hw hcols
      · cases h
    · cases h

end
end Go.RX

namespace Go.RX

section
variable {P : Program} {ρ : Env} {w : World} {look : Nat → Option SV} {vals : Operand → Value} {hp : List Ck} {S : Nat → Nat → Prop} {nb nv : Nat} {T : List TI}

/-- A part of an owned slice written anew, be it empty. -/
theorem sliHP_put {t s n : Nat} {v : Value} {cs vs : List Value} {S : Nat → Prop} (h : (sliHP true t s v n cs).p w S) (c : Nat) (hl : c + vs.length ≤ cs.length)
    (h1 : ∀ u ∈ vs, u.oneCell' = true) (a : Addr) (ha : 0 < vs.length → intoSlice v c = .pointer (some a)) :
    ∃ w', (storeCells a vs).run P w = .ok () w' ∧ Same w w' ∧ w'.heap.size = w.heap.size ∧
      (∀ k, ¬ S k → w'.heap[k]? = w.heap[k]?) ∧ (sliHP true t s v n (cs.take c ++ vs ++ cs.drop (c + vs.length))).p w' S ∧ (vs = [] → w' = w) := by
  cases vs with
  | nil =>
    refine ⟨w, rfl, Same.refl w, rfl, fun _ _ => rfl, ?_, fun _ => rfl⟩
    simpa using h
  | cons u r =>
    obtain ⟨g, o, w', g1, g2, g3, g4, g5, g6, g7⟩ := sliHP_set (P := P) h c hl (by simp) h1
    have := ha (by simp)
    rw [g1] at this
    cases this
    exact ⟨w', g3, g4, g5, fun k hk => g6 k (fun e => hk (e ▸ g2)), g7, by simp⟩

theorem rdRow_first {x : Value} {m s : Nat} {news : List Value} (h : World.rdRow w x m news) (hl : news.length = m * s) :
    (Builtin.lenOf x).run P w = .ok m w ∧ ∀ k, k ≤ m → (Builtin.firstCells s k x).run P w = .ok (news.take (k * s)).toArray w := by
  obtain ⟨a, c, rfl, hnil, hr⟩ := h
  refine ⟨rfl, fun k hk => ?_⟩
  cases a with
  | none =>
    have hm := hnil rfl
    subst hm
    have : news = [] := List.eq_nil_of_length_eq_zero (by simpa using hl)
    subst this
    simp [Builtin.firstCells]
  | some a =>
    have hks : k * s ≤ m * s := Nat.mul_le_mul_right _ hk
    have := run_loadCells_list (P := P) w a (news.take (k * s)) (fun j v hv => by
      rw [List.getElem?_take] at hv
      split at hv
      · exact hr a rfl j v hv
      · cases hv)
    rw [List.length_take, hl, Nat.min_eq_left hks] at this
    simpa [Builtin.firstCells] using this

/-- Appending to what is owned, whatever is read. -/
theorem run_append_rd (t ty e : TypeId) (i : TypeInfo) (z : Value) (size bytes : Nat) (ht : P.underlying t = some (.slice e)) (hi : P.info? e = some i) (hz : i.zero = some z)
    (hsize : i.size = size) (hby : i.bytes = bytes) (hzs : z.cells.size = size) (hsz : 0 < size)
    (v : Value) (n : Nat) (xs : List Value) (hown : w.ownsAt e size v n xs) (y : Value) (m : Nat) (news : List Value) (hy : World.rdRow w y m news) (hl : news.length = m * size)
    (h1 : ∀ u ∈ news, u.oneCell' = true) (h63 : n + m ≤ maxLen) (hbytes : (n + m) * bytes ≤ 140737488355328) :
    ∃ v' w', (Builtin.append_ #[t, t] ty #[v, y]).run P w = .ok v' w' ∧ w'.ownsAt e size v' (n + m) (xs ++ news) ∧ w.grownBy w' v.ownBlock ∧
      (v'.ownBlock = v.ownBlock ∨ v'.ownBlock = some w.heap.size) := by
  obtain ⟨a, c, rfl, hnil, hr⟩ := hy
  cases a with
  | some a =>
    exact run_append_at (P := P) (w := w) t ty e i z size bytes ht hi hz hsize hby hzs hsz v n xs hown a m c news hl (hr a rfl) h1 h63 hbytes
  | none =>
    have hm := hnil rfl
    subst hm
    have : news = [] := List.eq_nil_of_length_eq_zero (by simpa using hl)
    subst this
    refine ⟨v, w, ?_, by simpa using hown, ⟨rfl, rfl, rfl, Nat.le_refl _, fun _ _ _ => rfl⟩, .inl rfl⟩
    rcases hown.2 with ⟨rfl, rfl⟩ | ⟨g, o, cap, cur, rfl, _, hnc, _⟩
    · simp [Builtin.append_, run_underlying ht, sizeOf, typeInfo, hi, Builtin.lenOf, Builtin.firstCells]
    · simp [Builtin.append_, run_underlying ht, sizeOf, typeInfo, hi, Builtin.lenOf, Builtin.firstCells, hnc, storeCells]

/-- Appending in place. -/
theorem run_append_fit (t ty e : TypeId) (i : TypeInfo) (ht : P.underlying t = some (.slice e)) (hi : P.info? e = some i) (a : Option Addr) (N C : Nat) (y : Value) (m : Nat) (news : List Value)
    (hy : World.rdRow w y m news) (hl : news.length = m * i.size) (hfit : N + m ≤ C) {w' : World} (hs : ∀ ad, a = some ad → (storeCells (ad.add (N * i.size)) news).run P w = .ok () w') (hn : a = none → w' = w) :
    (Builtin.append_ #[t, t] ty #[.slice a N C, y]).run P w = .ok (.slice a (N + m) C) w' := by
  obtain ⟨q1, q2⟩ := rdRow_first (P := P) hy hl
  have q2 := q2 m (Nat.le_refl _)
  rw [List.take_of_length_le (by omega)] at q2
  cases a with
  | none =>
    have := hn rfl
    subst this
    simp [Builtin.append_, run_underlying ht, sizeOf, typeInfo, hi, q1, q2, hfit]
  | some ad =>
    have := hs ad rfl
    simp [Builtin.append_, run_underlying ht, sizeOf, typeInfo, hi, q1, q2, hfit, this]

/-- A part of an owned slice: what is behind it is given up, or its own. -/
theorem ownsAt_part {t s : Nat} {v x : Value} {n : E} {p : Part} {cs : List Value} (h : SubAt ρ s v x n p) (hl : 0 ≤ p.len.den ρ 0)
    (hv : w.ownsAt t s v (n.den ρ 0).toNat cs) : w.ownsAt t s x (p.len.den ρ 0).toNat ((cs.drop ((p.lo.den ρ 0).toNat * s)).take ((p.len.den ρ 0).toNat * s)) ∧ x.ownBlock = v.ownBlock := by
  have hle : (p.lo.den ρ 0).toNat + (p.len.den ρ 0).toNat ≤ (n.den ρ 0).toNat := by
    have h1 := h.lo
    have h2 := h.hi
    clear hv h
    omega
  obtain ⟨h1, h2, h3, a, c, k, rfl, hc, rfl, hk⟩ := h
  obtain ⟨hlen, hr⟩ := hv
  have hle' := Nat.mul_le_mul_right s hle
  rw [Nat.add_mul] at hle'
  have key : ∀ (A B C : Nat), B + A ≤ C → min A (C - B) = A := by intro A B C h; omega
  refine ⟨⟨by rw [List.length_take, List.length_drop, hlen]; exact key _ _ _ hle', ?_⟩, by cases a <;> simp [Value.ownBlock, Addr.add]; try (split <;> rfl)⟩
  rcases hr with ⟨he, hz⟩ | ⟨g, o, cap, cur, he, hg, hnc, hcm, hcs, htk⟩
  · left
    simp only [Value.slice.injEq] at he
    obtain ⟨rfl, _, rfl⟩ := he
    have h0 : (p.len.den ρ 0).toNat = 0 := by omega
    refine ⟨?_, h0⟩
    rw [h0]
    simp only [Option.map_none, Value.slice.injEq, true_and]
    cases hm : p.mx with
    | none => simp
    | some m =>
      have := (h3 (m.den ρ 0) (by rw [hm]; rfl)).2
      simp only [Option.map_some, Option.getD_some]
      omega
  · right
    simp only [Value.slice.injEq] at he
    obtain ⟨rfl, _, rfl⟩ := he
    simp only [Option.map_some, addr_add_at]
    have hmc : ((p.mx.map fun m => m.den ρ 0).map Int.toNat).getD c ≤ c := by
      cases hm : p.mx with
      | none => exact Nat.le_refl _
      | some m =>
        have := (h3 (m.den ρ 0) (by rw [hm]; rfl)).2
        simp only [Option.map_some, Option.getD_some]
        omega
    have hmn : (p.lo.den ρ 0).toNat + (p.len.den ρ 0).toNat ≤ ((p.mx.map fun m => m.den ρ 0).map Int.toNat).getD c := by
      cases hm : p.mx with
      | none => simp only [Option.map_none, Option.getD_none]; omega
      | some m =>
        have := (h3 (m.den ρ 0) (by rw [hm]; rfl)).1
        simp only [Option.map_some, Option.getD_some]
        omega
    obtain ⟨C, hC⟩ : ∃ C, C = ((p.mx.map fun m => m.den ρ 0).map Int.toNat).getD c := ⟨_, rfl⟩
    rw [← hC] at hk hmc hmn ⊢
    have q1 : (p.len.den ρ 0).toNat ≤ C - (p.lo.den ρ 0).toNat := Nat.le_sub_of_add_le (by rw [Nat.add_comm]; exact hmn)
    have q2 : C - (p.lo.den ρ 0).toNat ≤ maxLen := Nat.le_trans (Nat.sub_le _ _) (Nat.le_trans hmc hcm)
    refine ⟨g, o + k, C - (p.lo.den ρ 0).toNat, cur, rfl, hg, q1, q2, fun hpos => ?_, ?_⟩
    · have hkk := hk (.inl (by omega))
      have := hcs (by omega)
      have e1 : (C - (p.lo.den ρ 0).toNat) * s + (p.lo.den ρ 0).toNat * s = C * s := by rw [← Nat.add_mul]; congr 1; omega
      have e2 : C * s ≤ c * s := Nat.mul_le_mul_right _ hmc
      omega
    · by_cases h0 : (p.len.den ρ 0).toNat = 0
      · rw [h0, Nat.zero_mul, List.take_zero, List.take_zero]
      · have hkk := hk (.inl (by omega))
        rw [← htk, List.drop_take, List.take_take, List.drop_drop, hkk, Nat.min_eq_left (by omega)]

theorem roomVc_prop {n : E} {bytes : Nat} (h : (roomVc n bytes).prop ρ) (h0 : 0 ≤ n.den ρ 0) :
    (n.den ρ 0).toNat * bytes ≤ 140737488355328 ∧ (n.den ρ 0).toNat ≤ 140737488355328 := by
  unfold roomVc at h
  have h := of_decide_eq_true (bLe_den ρ _ _ ▸ (BE.den_iff ρ _).2 h)
  rw [eMul_den] at h
  simp only [E.den] at h
  obtain ⟨k, hk⟩ := Int.eq_ofNat_of_zero_le h0
  rw [hk] at h ⊢
  rw [← Int.natCast_mul] at h
  have h : k * max 1 bytes ≤ 140737488355328 := by omega
  have h2 : k * bytes ≤ k * max 1 bytes := Nat.mul_le_mul_left _ (Nat.le_max_right _ _)
  have h3 : k * 1 ≤ k * max 1 bytes := Nat.mul_le_mul_left _ (Nat.le_max_left _ _)
  simp only [Int.toNat_natCast]
  omega

theorem cells_take_tab (n L : Nat) (cols : List Col) (h : L ≤ n) : (tabCells ρ n cols).take (L * colsW cols) = tabCells ρ L cols := by
  have := tabF_cut (row_length ρ cols) n 0 L (by omega)
  rw [Nat.zero_mul, List.drop_zero] at this
  rw [tabCells_eq, this, tabCells_eq]
  exact tabF_congr fun i _ => by rw [Nat.zero_add]

theorem appendSym2_sound (hT : checkT P T = true) {ts : TypeId} {tt : TI} (htt : tlook T ts = some tt) {x y : SV} {res : Res} (h : appendSym2 T hp nv tt.k x y = some res)
    (hrd : Reads hp ρ w S res.rd) (hvc : ∀ b ∈ res.vcs, b.prop ρ) (ty : TypeId) :
    Did P ρ w hp S nb nv ((do pure (.value (← Builtin.append_ #[ts, ts] ty #[x.val ρ, y.val ρ])) : Sem Next).run P w) res := by
  unfold appendSym2 at h
  split at h
  · rename_i t hk
    split at h
    · rename_i te hte
      obtain ⟨rfl, htt'⟩ := tlook_spec hT htt
      obtain ⟨rfl, hti⟩ := tlook_spec hT hte
      have hkk := htt'.kind
      rw [hk] at hkk
      have hu := kind_slice hkk
      obtain ⟨i, hi, hsz, hby, z, hz, hc⟩ := hti.info
      have hzs : z.cells.size = te.size := by rw [← Array.length_toList, ← hc ρ, cellsL_length, hti.zlen]
      split at h
      · rename_i sc hsc
        split at h
        · cases h
        · rename_i hpos
          have hpos : 0 < te.size := by omega
          split at h
          · cases h
            simp only at hvc hrd
            obtain ⟨v1, v3⟩ := mem_app hvc
            obtain ⟨v1, v2⟩ := mem_app v1
            have v2 := bLe'_prop v2
            simp only [E.den] at v2
            obtain ⟨b1, b2⟩ := roomVc_prop (bytes := te.bytes) (v3 _ (by simp)) v2
            obtain ⟨_, s2, s3⟩ := srcOf_spec hsc hrd v1 v2
            obtain ⟨v', w', r1, r2, r3, r5⟩ := run_append_rd (P := P) tt.t ty te.t i z te.size te.bytes hu hi hz hsz hby hzs hpos (.slice none 0 0) 0 [] (ownsAt_nil w te.t te.size)
              _ _ _ s3 (by rw [tab_length, s2]) (tab_one _ _) (by unfold maxLen; omega) (by rw [Nat.zero_add]; exact b1)
            refine ⟨te.t, te.size, _, sc.cols, v', w', fun k => v'.ownBlock = some k, rfl, rfl, by simp only [SV.val, Sem.run_bind, r1, Result.andThen_ok, Sem.run_pure], ?_, ⟨r3.os, r3.tape, r3.output, r3.size⟩, fun k hk => r3.block k hk (by simp [Value.ownBlock]), ⟨?_, fun k => ⟨fun h => ⟨h, .inl rfl⟩, fun h => h.1⟩⟩, ?_⟩
            · rcases r2.2 with ⟨rfl, _⟩ | ⟨g, o, cap, cur, rfl, _⟩ <;> rfl
            · simp only [if_true]
              simpa using r2
            · intro k hk
              rcases r5 with h | h
              · rw [hk] at h; cases h
              · rw [hk] at h
                cases h
                exact ⟨Nat.le_refl _, ownsAt_lt r2 hk⟩
          · rename_i b ix s n m
            split at h
            · rename_i x q hx hq
              split at h
              · rename_i hc
                obtain ⟨hxn, rfl, rfl⟩ := hc
                rw [Option.map_eq_some_iff] at h
                obtain ⟨cols', hcols, rfl⟩ := h
                simp only at hvc hrd
                obtain ⟨v1, v4⟩ := mem_app hvc
                obtain ⟨v1, v3⟩ := mem_app v1
                obtain ⟨v1, v2⟩ := mem_app v1
                have v3 := bLe'_prop v3
                simp only [E.den] at v3
                have hqn : sc.n.den ρ 0 = ((q + 1 : Nat) : Int) := litNat_den (ρ := ρ) hq
                obtain ⟨_, x2, x3⟩ := srcOf_spec (te := te) hx (fun j hj => hrd j (List.mem_append_left _ hj)) v1 (by rw [hxn]; exact v3)
                obtain ⟨_, s2, s3⟩ := srcOf_spec (te := te) hsc (fun j hj => hrd j (List.mem_append_right _ hj)) v2 (by omega)
                rw [hxn] at x3
                have hsum : (eAdd n sc.n).den ρ 0 = n.den ρ 0 + sc.n.den ρ 0 := eAdd_den ..
                obtain ⟨b1, b2⟩ := roomVc_prop (n := eAdd n sc.n) (bytes := te.bytes) (v4 _ (by simp)) (by rw [hsum]; omega)
                have hsumn : ((eAdd n sc.n).den ρ 0).toNat = (n.den ρ 0).toNat + (sc.n.den ρ 0).toNat := by rw [hsum]; omega
                rw [hsumn] at b1 b2
                obtain ⟨ya, yc, hyv, hynil, hyr⟩ := s3
                have hya : ∃ a, ya = some a := by
                  cases ya with
                  | none => have := hynil rfl; omega
                  | some a => exact ⟨a, rfl⟩
                obtain ⟨ya, rfl⟩ := hya
                obtain ⟨xa, xc, hxv, _, hxr⟩ := x3
                have hxv' : (SV.sl b ix te.size n n).val ρ = .slice (some ⟨ρ.bv.getD b 0, (ix.den ρ 0).toNat * te.size, none⟩) (n.den ρ 0).toNat (n.den ρ 0).toNat := rfl
                rw [hxv'] at hxv
                simp only [Value.slice.injEq] at hxv
                obtain ⟨hxa, _, _⟩ := hxv
                obtain ⟨v', w', r1, r2, r3, r5⟩ := run_append_full (P := P) (w := w) tt.t ty te.t i z te.size te.bytes hu hi hz hsz hby hzs ⟨ρ.bv.getD b 0, (ix.den ρ 0).toNat * te.size, none⟩ (n.den ρ 0).toNat _ (by rw [tab_length, x2])
                  (fun j u hj => hxr _ hxa.symm j u hj) ya (sc.n.den ρ 0).toNat yc (by omega) _ (by rw [tab_length, s2]) (fun j u hj => hyr _ rfl j u hj) (by unfold maxLen; omega) b1
                have hcells : tabCells ρ ((eAdd n sc.n).den ρ 0).toNat cols' = tabCells ρ (n.den ρ 0).toNat x.cols ++ tabCells ρ (sc.n.den ρ 0).toNat sc.cols := by
                  rw [hsumn]
                  obtain ⟨c1, c2, c3⟩ := splCols_spec (ρ := ρ) v3 (by omega) hcols
                  rw [tabCells_eq, tabF_add]
                  congr 1
                  · exact tabF_congr fun k hk => by rw [c3, if_neg (by omega)]
                  · exact tabF_congr fun k hk => by rw [c3, if_pos (by omega)]; congr 1; omega
                refine ⟨te.t, te.size, _, cols', v', w', fun k => v'.ownBlock = some k, rfl, rfl, by rw [hxv', hyv]; simp only [Sem.run_bind, r1, Result.andThen_ok, Sem.run_pure], ?_, ⟨r3.os, r3.tape, r3.output, r3.size⟩, fun k hk => r3.block k hk (by simp), ⟨?_, fun k => ⟨fun h => ⟨h, .inl rfl⟩, fun h => h.1⟩⟩, ?_⟩
                · rcases r2.2 with ⟨rfl, _⟩ | ⟨g, o, cap, cur, rfl, _⟩ <;> rfl
                · simp only [if_true]
                  rw [hcells, hsumn]
                  exact r2
                · intro k hk
                  rw [hk] at r5
                  cases r5
                  exact ⟨Nat.le_refl _, ownsAt_lt r2 hk⟩
              · cases h
            · cases h
          · split at h
            · rename_i r hr
              split at h
              · rename_i hcond
                obtain ⟨ht, hs, hw, hmd⟩ := hcond
                split at h
                · split at h
                  · rename_i v lo hi' s cols' hcols _ _
                    cases h
                    simp only at hvc hrd
                    obtain ⟨v1, v4⟩ := mem_app hvc
                    obtain ⟨v1, v3⟩ := mem_app v1
                    obtain ⟨v1, v2⟩ := mem_app v1
                    have v3 := bLe'_prop v3
                    have v4 := bLe'_prop v4
                    simp only [E.den] at v3
                    rw [eAdd_den] at v4
                    have hrj : Reads hp ρ w S [r.j] := fun j hj => hrd j (by simp at hj; simp [hj])
                    obtain ⟨hj, _⟩ := rootSV_spec hr hrj v1
                    have hS := hrj r.j (by simp) _ hj
                    obtain ⟨_, s2, s3⟩ := srcOf_spec (te := te) hsc (fun j hj => hrd j (List.mem_cons_of_mem _ hj)) v2 v3
                    -- the slice is one cut of its root
                    have hrv : r.v = v ∧ r.s = s ∧ r.p = ⟨eAdd (.lit 0) lo, eSub hi' lo, none⟩ ∧ r.vcs = (cutStep r.n ⟨.lit 0, r.n, none⟩ ⟨lo, hi', none⟩).2 ++ [] := by
                      unfold rootSV at hr
                      simp only at hr
                      split at hr
                      · split at hr
                        · rename_i hss
                          cases hr
                          exact ⟨rfl, hss, rfl, rfl⟩
                        · cases hr
                      · cases hr
                    obtain ⟨rfl, rfl, hp', hvcs⟩ := hrv
                    have v1 := hvcs ▸ v1
                    rw [List.append_nil] at v1
                    obtain ⟨_, k1, k2, _, a, N, C, hv, hN, hC, _⟩ := (SubAt.whole (ρ := ρ) (s := r.s) (n := r.n) (sli_whole hS)).step _ v1
                    have hC := hC rfl
                    simp only at k1 k2 hN hC
                    rw [hmd] at hS
                    have hat : (eAdd r.p.lo r.p.len).den ρ 0 = hi'.den ρ 0 := by
                      rw [hp']
                      simp only [eAdd_den, eSub_den, E.den]
                      omega
                    obtain ⟨c1, c2, c3⟩ := splCols_spec (ρ := ρ) (by rw [hat]; omega) v3 hcols
                    rw [hat] at c3
                    have htab := tabF_spl (f := rowAt ρ r.cols) (g := rowAt ρ sc.cols) (h := rowAt ρ cols') (s := r.s) (fun i => by rw [row_length]; exact hw.symm) (r.n.den ρ 0).toNat (hi'.den ρ 0).toNat (sc.n.den ρ 0).toNat
                      (by omega) c3
                    have hnl : (tabCells ρ (sc.n.den ρ 0).toNat sc.cols).length = (sc.n.den ρ 0).toNat * r.s := by rw [tab_length, s2, hs]
                    have hbnd : (hi'.den ρ 0).toNat * r.s + (tabCells ρ (sc.n.den ρ 0).toNat sc.cols).length ≤ (tabCells ρ (r.n.den ρ 0).toNat r.cols).length := by
                      rw [hnl, tab_length, ← hw, ← Nat.add_mul]
                      exact Nat.mul_le_mul_right _ (by omega)
                    obtain ⟨w', g1, g2, g3, g4, g5, g6⟩ := sliHP_put (P := P) hS ((hi'.den ρ 0).toNat * r.s) hbnd (tab_one _ _) ((a.getD ⟨0, 0, none⟩).add ((hi'.den ρ 0).toNat * r.s)) (fun hpos' => by
                      rw [hv]
                      cases a with
                      | none =>
                        exfalso
                        obtain ⟨_, _, he, hnil, _⟩ := (sli_rd hS).1
                        rw [hv] at he
                        cases he
                        have := hnil rfl
                        rw [hnl] at hpos'
                        have : (sc.n.den ρ 0).toNat = 0 := by omega
                        rw [this, Nat.zero_mul] at hpos'
                        omega
                      | some a => rfl)
                    refine ⟨w', .inl ?_, ⟨⟨_, hj, by rw [hmd]; rfl⟩, rfl, g2, g3, g4, ?_⟩⟩
                    · have hrun := run_append_fit (P := P) (w := w) (w' := w') tt.t ty te.t i hu hi (if C = (lo.den ρ 0).toNat then a else a.map (·.add ((lo.den ρ 0).toNat * r.s))) ((hi'.den ρ 0).toNat - (lo.den ρ 0).toNat) (C - (lo.den ρ 0).toNat)
                        (y.val ρ) (sc.n.den ρ 0).toNat (tabCells ρ (sc.n.den ρ 0).toNat sc.cols) s3 (by rw [hnl, hsz, hs]) (by
                          have : (r.n.den ρ 0).toNat ≤ C := by
                            obtain ⟨_, _, he, hle⟩ := sli_whole hS
                            rw [hv] at he
                            cases he
                            exact hle
                          omega) (fun ad had => by
                          cases a with
                          | none => simp at had
                          | some a0 =>
                            by_cases hz0 : (sc.n.den ρ 0).toNat = 0
                            · have hnil : tabCells ρ (sc.n.den ρ 0).toNat sc.cols = [] := List.eq_nil_of_length_eq_zero (by rw [hnl, hz0, Nat.zero_mul])
                              rw [hnil] at g6 ⊢
                              rw [g6 rfl]
                              rfl
                            · have hle : (r.n.den ρ 0).toNat ≤ C := by
                                obtain ⟨_, _, he, hle⟩ := sli_whole hS
                                rw [hv] at he
                                cases he
                                exact hle
                              rw [if_neg (by omega)] at had
                              simp only [Option.map_some, Option.some.injEq] at had
                              subst had
                              rw [addr_add_add, hsz, ← hs, ← Nat.add_mul, show (lo.den ρ 0).toNat + ((hi'.den ρ 0).toNat - (lo.den ρ 0).toNat) = (hi'.den ρ 0).toNat by omega]
                              exact g1) (fun hnone => by
                          apply g6
                          cases a with
                          | some a0 => split at hnone <;> simp at hnone
                          | none =>
                            obtain ⟨_, _, he, hnil, _⟩ := (sli_rd hS).1
                            rw [hv] at he
                            cases he
                            have := hnil rfl
                            apply List.eq_nil_of_length_eq_zero
                            rw [hnl, show (sc.n.den ρ 0).toNat = 0 by omega, Nat.zero_mul])
                      have e1 : (SV.vsub r.v [⟨lo, hi', none⟩] r.s).val ρ = .slice (if C = (lo.den ρ 0).toNat then a else a.map (·.add ((lo.den ρ 0).toNat * r.s))) ((hi'.den ρ 0).toNat - (lo.den ρ 0).toNat) (C - (lo.den ρ 0).toNat) := by
                        simp only [SV.val, subSlices, hv]
                        rfl
                      have e2 : (SV.vsub r.v [⟨lo, eAdd hi' sc.n, none⟩] r.s).val ρ = .slice (if C = (lo.den ρ 0).toNat then a else a.map (·.add ((lo.den ρ 0).toNat * r.s))) ((hi'.den ρ 0).toNat - (lo.den ρ 0).toNat + (sc.n.den ρ 0).toNat) (C - (lo.den ρ 0).toNat) := by
                        simp only [SV.val, subSlices, hv, eAdd_den]
                        show Value.slice _ _ _ = _
                        congr 1
                        omega
                      simp only [Sem.run_bind, e1, hrun, Result.andThen_ok, Sem.run_pure, e2]
                    · simp only [Ck.den]
                      rw [tabCells_eq, htab]
                      rw [hnl] at g5
                      rw [← ht]
                      exact g5
                  · cases h
                · split at h
                  · rename_i rc hrc
                    split at h
                    · rename_i cols' hcols
                      cases h
                      simp only at hvc hrd
                      obtain ⟨v1, v5⟩ := mem_app hvc
                      obtain ⟨v1, v4⟩ := mem_app v1
                      obtain ⟨v1, v3⟩ := mem_app v1
                      obtain ⟨v1, v2⟩ := mem_app v1
                      have v3 := bLe'_prop v3
                      have v4 := bLe'_prop v4
                      simp only [E.den] at v3 v4
                      have hrj : Reads hp ρ w S [r.j] := fun j hj => hrd j (by simp at hj; simp [hj])
                      obtain ⟨hj, hsub⟩ := rootSV_spec hr hrj v1
                      have hS := hrj r.j (by simp) _ hj
                      rw [hmd] at hS
                      obtain ⟨_, s2, s3⟩ := srcOf_spec (te := te) hsc (fun j hj => hrd j (List.mem_cons_of_mem _ hj)) v2 v4
                      have hsum : (eAdd r.p.len sc.n).den ρ 0 = r.p.len.den ρ 0 + sc.n.den ρ 0 := eAdd_den ..
                      obtain ⟨b1, b2⟩ := roomVc_prop (n := eAdd r.p.len sc.n) (bytes := te.bytes) (v5 _ (by simp)) (by rw [hsum]; omega)
                      have hsumn : ((eAdd r.p.len sc.n).den ρ 0).toNat = (r.p.len.den ρ 0).toNat + (sc.n.den ρ 0).toNat := by rw [hsum]; omega
                      rw [hsumn] at b1 b2
                      obtain ⟨hown, hblk⟩ := hS
                      simp only [if_true] at hown
                      obtain ⟨o1, o2⟩ := ownsAt_part hsub v3 hown
                      have hhi := hsub.hi
                      have hlo := hsub.lo
                      obtain ⟨e1, e2⟩ := shiftCols_spec (ρ := ρ) hsub.lo hrc
                      have hpart : ((tabCells ρ (r.n.den ρ 0).toNat r.cols).drop ((r.p.lo.den ρ 0).toNat * r.s)).take ((r.p.len.den ρ 0).toNat * r.s) = tabCells ρ (r.p.len.den ρ 0).toNat rc := by
                        rw [tabCells_eq, hw, tabF_cut (row_length ρ r.cols) _ _ _ (by omega), tabCells_eq]
                        exact tabF_congr fun i _ => (e2 i).symm
                      rw [hpart] at o1
                      obtain ⟨v', w', r1, r2, r3, r5⟩ := run_append_rd (P := P) tt.t ty te.t i z te.size te.bytes hu hi hz hsz hby hzs hpos (x.val ρ) (r.p.len.den ρ 0).toNat _ (by rw [← ht, ← hs]; exact o1)
                        _ _ _ s3 (by rw [tab_length, s2]) (tab_one _ _) (by unfold maxLen; omega) b1
                      have hcells : tabCells ρ ((eAdd r.p.len sc.n).den ρ 0).toNat cols' = tabCells ρ (r.p.len.den ρ 0).toNat rc ++ tabCells ρ (sc.n.den ρ 0).toNat sc.cols := by
                        rw [hsumn]
                        split at hcols
                        · rename_i hl0
                          cases hcols
                          rw [hl0]
                          simp [E.den, tabCells, tabL]
                        · obtain ⟨c1, c2, c3⟩ := splCols_spec (ρ := ρ) v3 v4 hcols
                          rw [tabCells_eq, tabF_add]
                          congr 1
                          · exact tabF_congr fun k hk => by rw [c3, if_neg (by omega)]
                          · exact tabF_congr fun k hk => by rw [c3, if_pos (by omega)]; congr 1; omega
                      refine ⟨te.t, r.s, _, cols', v', w', fun k => v'.ownBlock = some k, rfl, rfl, by simp only [Sem.run_bind, r1, Result.andThen_ok, Sem.run_pure], ?_, ⟨_, hj, by rw [hmd]; rfl⟩, ⟨r3.os, r3.tape, r3.output, r3.size⟩, ?_, ⟨?_, fun k => ⟨fun h => ⟨h, .inl rfl⟩, fun h => h.1⟩⟩, ?_⟩
                      · rcases r2.2 with ⟨rfl, _⟩ | ⟨g, o, cap, cur, rfl, _⟩ <;> rfl
                      · intro k hk hn
                        refine r3.block k hk fun he => hn ((hblk k).2 ⟨?_, .inl rfl⟩)
                        rw [← o2, ← he]
                      · simp only [if_true]
                        rw [hcells, hsumn, hs]
                        exact r2
                      · intro k hk
                        rcases r5 with h | h
                        · left
                          rw [hblk k, ← o2, ← h]; exact ⟨hk, .inl rfl⟩
                        · right
                          rw [hk] at h
                          cases h
                          exact ⟨Nat.le_refl _, ownsAt_lt r2 hk⟩
                    · cases h
                  · cases h
              · cases h
            · cases h
      · cases h
    · cases h
  · cases h

end
end Go.RX

namespace Go.RX

section
variable {P : Program} {ρ : Env} {w : World} {look : Nat → Option SV} {vals : Operand → Value} {hp : List Ck} {S : Nat → Nat → Prop} {nb nv : Nat} {T : List TI}

theorem zeroFit_spec : ∀ {l : List SV} {cols : List Col}, zeroFit l cols = true → ∀ i : Nat, rowAt ρ cols i = SV.cellsL ρ l
  | [], [], _, _ => rfl
  | [], _ :: _, h, _ => by simp [zeroFit] at h
  | v :: r, [], h, _ => by cases v <;> simp [zeroFit] at h
  | v :: r, c :: cols, h, i => by
    unfold zeroFit at h
    split at h
    · rename_i h1 _; cases h1
    · rename_i k r' k' w cols' h1 h2
      cases h1
      cases h2
      simp only [Bool.and_eq_true, beq_iff_eq] at h
      obtain ⟨⟨rfl, rfl⟩, h⟩ := h
      have := zeroFit_spec h i
      simp only [rowAt, List.map_cons, List.flatMap_cons, SV.cellsL, SV.cells] at this ⊢
      rw [this]
      simp [Col.cells, colI, segCells, E.den]
    · rename_i r' w cols' h1 h2
      cases h1
      cases h2
      simp only [Bool.and_eq_true, beq_iff_eq] at h
      obtain ⟨rfl, h⟩ := h
      have := zeroFit_spec h i
      simp only [rowAt, List.map_cons, List.flatMap_cons, SV.cellsL, SV.cells] at this ⊢
      rw [this]
      simp [Col.cells, colB, E.den, BE.den]
    · rename_i k n r' k' w cols' h1 h2
      cases h1
      cases h2
      simp only [Bool.and_eq_true, beq_iff_eq] at h
      obtain ⟨⟨rfl, rfl⟩, h⟩ := h
      have := zeroFit_spec h i
      simp only [rowAt, List.map_cons, List.flatMap_cons, SV.cellsL, SV.cells] at this ⊢
      rw [this]
      simp only [Col.cells, colI]
      congr 1
    · rename_i r' w cols' h1 h2
      cases h1
      cases h2
      simp only [Bool.and_eq_true, beq_iff_eq] at h
      obtain ⟨rfl, h⟩ := h
      have := zeroFit_spec h i
      simp only [rowAt, List.map_cons, List.flatMap_cons, SV.cellsL, SV.cells] at this ⊢
      rw [this]
      simp [Col.cells, colP, E.den, ptrV]
    · rename_i r' w a' cols' h1 h2
      cases h1
      cases h2
      simp only [Bool.and_eq_true, beq_iff_eq] at h
      obtain ⟨rfl, h⟩ := h
      have := zeroFit_spec h i
      simp only [rowAt, List.map_cons, List.flatMap_cons, SV.cellsL, SV.cells] at this ⊢
      rw [this]
      simp [Col.cells, colV]
    · rename_i r' w cols' h1 h2
      cases h1
      cases h2
      simp only [Bool.and_eq_true, beq_iff_eq] at h
      obtain ⟨rfl, h⟩ := h
      have := zeroFit_spec h i
      simp only [rowAt, List.map_cons, List.flatMap_cons, SV.cellsL, SV.cells] at this ⊢
      rw [this]
      simp [Col.cells, colV, E.den, at2F, strD]
    · cases h

theorem zeroCols_spec {te : TI} {z : List Col} (h : zeroCols T te = some z) : (∀ i : Nat, rowAt ρ z i = SV.cellsL ρ te.zero) ∧ colsW z = te.size ∧ 0 < te.size := by
  unfold zeroCols at h
  split at h
  · split at h
    · rename_i hc
      cases h
      simp only [Bool.and_eq_true, beq_iff_eq, Bool.not_eq_true', beq_eq_false_iff_ne] at hc
      exact ⟨fun i => zeroFit_spec hc.1.1 i, hc.1.2, by omega⟩
    · cases h
  · cases h

theorem zero_tab {te : TI} {z : List Col} (h : zeroCols T te = some z) (n : Nat) : tabCells ρ n z = (List.replicate n (SV.cellsL ρ te.zero)).flatten := by
  rw [tabCells_eq, tabF_congr fun i _ => (zeroCols_spec h).1 i]
  unfold tabF
  induction n with
  | zero => rfl
  | succ n ih => rw [List.range_succ, List.flatMap_append, ih, List.replicate_succ', List.flatten_append]; simp

theorem makeSym_sound (hT : checkT P T = true) {ts : TypeId} {tt : TI} (htt : tlook T ts = some tt) {n c : E} {res : Res} (h : makeSym T nv tt.k n c = some res) (hvc : ∀ b ∈ res.vcs, b.prop ρ)
    (k k' : IntKind) :
    Did P ρ w hp S nb nv ((do pure (.value (← Instr.makeSlice ts (.int k (n.den ρ 0)) (.int k' (c.den ρ 0)))) : Sem Next).run P w) res := by
  unfold makeSym at h
  split at h
  · rename_i t hk
    split at h
    · rename_i te hte
      obtain ⟨rfl, htt'⟩ := tlook_spec hT htt
      obtain ⟨rfl, hti⟩ := tlook_spec hT hte
      have hkk := htt'.kind
      rw [hk] at hkk
      have hu := kind_slice hkk
      obtain ⟨i, hi, hsz, hby, z, hz, hc⟩ := hti.info
      have hzs : z.cells.size = te.size := by rw [← Array.length_toList, ← hc ρ, cellsL_length, hti.zlen]
      split at h
      · rename_i zc hzc
        cases h
        simp only at hvc
        obtain ⟨v1, v3⟩ := mem_app hvc
        obtain ⟨v1, v2⟩ := mem_app v1
        have v1 := bLe'_prop v1
        have v2 := bLe'_prop v2
        simp only [E.den] at v1
        obtain ⟨b1, b2⟩ := roomVc_prop (n := c) (bytes := te.bytes) (v3 _ (by simp)) (by omega)
        obtain ⟨z1, z2, z3⟩ := zeroCols_spec (ρ := ρ) hzc
        have hb' : (i.bytes : Int) * c.den ρ 0 ≤ 281474976710656 := by
          have : ((i.bytes * (c.den ρ 0).toNat : Nat) : Int) ≤ 281474976710656 := by rw [hby, Nat.mul_comm]; omega
          rw [Int.natCast_mul, Int.toNat_of_nonneg (by omega)] at this
          exact this
        have hr := run_make (P := P) w tt.t te.t i z hu hi hz k k' (n.den ρ 0) (c.den ρ 0) v1 v2 hb' (by omega)
        have hcells : (madeCells z.cells ((c.den ρ 0).toNat * i.size)).toList = tabCells ρ (c.den ρ 0).toNat zc := by
          rw [zero_tab hzc, hc ρ, hsz, ← hzs]
          unfold madeCells
          exact rep_mod _ _ (by omega)
        refine ⟨te.t, te.size, n, zc, .slice (some ⟨w.heap.size, 0, none⟩) (n.den ρ 0).toNat (c.den ρ 0).toNat, w.alloc (.cells (madeCells z.cells ((c.den ρ 0).toNat * i.size)) te.t), fun k => k = w.heap.size, rfl, rfl, by simp only [Sem.run_bind, hr, Result.andThen_ok, Sem.run_pure], rfl, ⟨rfl, rfl, rfl, by simp⟩, fun k hk => heap_alloc_old w _ hk, ⟨?_, ?_⟩, ?_⟩
        · simp only [if_true]
          refine ⟨by rw [tab_length, z2], .inr ⟨w.heap.size, 0, _, _, rfl, ⟨_, heap_alloc_new w _⟩, by omega, by unfold maxLen; omega, fun _ => ?_, ?_⟩⟩
          · rw [size_madeCells, hsz, Nat.zero_add]; exact Nat.le_refl _
          · rw [hcells, ← z2, List.drop_zero, cells_take_tab _ _ _ (by omega)]
        · intro k
          simp only [Value.ownBlock, Option.some.injEq]
          exact ⟨fun h => ⟨h.symm, .inl trivial⟩, fun h => h.1.symm⟩
        · rintro k rfl
          simp
      · cases h
    · cases h
  · cases h

theorem buildNil_sound (hT : checkT P T = true) {ti te : TI} {t : TypeId} (ht : tlook T t = some ti) {e : Nat} (hk : ti.k = .slice e) (hte : tlook T e = some te) {zc : List Col} (_ : zeroCols T te = some zc) :
    Did P ρ w hp S nb nv ((do pure (.value (← Instr.buildSlice t 0 #[])) : Sem Next).run P w) { val := .vv nv, eff := .own (.sli true nv e te.size (.lit 0) zc) } := by
  obtain ⟨rfl, hti⟩ := tlook_spec hT ht
  obtain ⟨rfl, htie⟩ := tlook_spec hT hte
  have hkk := hti.kind
  rw [hk] at hkk
  have hu := kind_slice hkk
  have hr : (Instr.buildSlice ti.t 0 #[]).run P w = .ok (.slice (some ⟨w.heap.size, 0, none⟩) 0 0) (w.alloc (.cells #[] te.t)) := by
    simp [Instr.buildSlice, run_underlying hu, htie.sizeOf w, Instr.fill, newRow, Array.range_zero']
  refine ⟨te.t, te.size, .lit 0, zc, .slice (some ⟨w.heap.size, 0, none⟩) 0 0, w.alloc (.cells #[] te.t), fun k => k = w.heap.size, rfl, rfl, by simp only [Sem.run_bind, hr, Result.andThen_ok, Sem.run_pure], rfl, ⟨rfl, rfl, rfl, by simp⟩, fun k hk => heap_alloc_old w _ hk, ⟨?_, ?_⟩, ?_⟩
  · simp only [if_true]
    refine ⟨by simp [E.den, tabCells, tabL], .inr ⟨w.heap.size, 0, 0, #[], rfl, ⟨_, heap_alloc_new w _⟩, Nat.le_refl _, Nat.zero_le _, by simp, by simp [E.den, tabCells, tabL]⟩⟩
  · intro k
    simp only [Value.ownBlock, Option.some.injEq]
    exact ⟨fun h => ⟨h.symm, .inl trivial⟩, fun h => h.1.symm⟩
  · rintro k rfl
    simp

/-- Rows of an owned slice's part are put in place; the storing runs. -/
theorem sub_put {x : SV} {r : Rt} (hr : rootSV hp x = some r) (hrd : Reads hp ρ w S [r.j]) (hv : ∀ b ∈ r.vcs, b.prop ρ) (hmd : r.md = true) (hw : r.s = colsW r.cols) (hl : 0 ≤ r.p.len.den ρ 0)
    {m : E} (hm : 0 ≤ m.den ρ 0) (hle : m.den ρ 0 ≤ r.p.len.den ρ 0) {sc cols' : List Col} (hs : colsW sc = r.s) (hcols : splCols r.p.lo m r.cols sc = some cols') :
    ∃ a c, x.val ρ = .slice a (r.p.len.den ρ 0).toNat c ∧ ∃ w', (∀ ad, a = some ad → (storeCells ad (tabCells ρ (m.den ρ 0).toNat sc)).run P w = .ok () w') ∧ ((m.den ρ 0).toNat = 0 → w' = w) ∧ (a = none → w' = w) ∧
      Wrote P w ρ hp S r.j (.sli true r.v r.t r.s r.n cols') w' := by
  obtain ⟨hj, hsub⟩ := rootSV_spec hr hrd hv
  have hS := hrd r.j (by simp) _ hj
  have hS : (sliHP true r.t r.s (ρ.vv.getD r.v V1.nil).v (r.n.den ρ 0).toNat (tabCells ρ (r.n.den ρ 0).toNat r.cols)).p w (S r.j) := by
    rw [hmd] at hS
    exact hS
  obtain ⟨h1, h2, h3, a, c, k, hv0, hc, hx, hk⟩ := hsub
  obtain ⟨c1, c2, c3⟩ := splCols_spec (ρ := ρ) h1 hm hcols
  have htab := tabF_spl (f := rowAt ρ r.cols) (g := rowAt ρ sc) (h := rowAt ρ cols') (s := r.s) (fun i => by rw [row_length]; exact hw.symm) (r.n.den ρ 0).toNat (r.p.lo.den ρ 0).toNat (m.den ρ 0).toNat (by omega) c3
  have hnl : (tabCells ρ (m.den ρ 0).toNat sc).length = (m.den ρ 0).toNat * r.s := by rw [tab_length, hs]
  have hbnd : (r.p.lo.den ρ 0).toNat * r.s + (tabCells ρ (m.den ρ 0).toNat sc).length ≤ (tabCells ρ (r.n.den ρ 0).toNat r.cols).length := by
    rw [hnl, tab_length, ← hw, ← Nat.add_mul]
    exact Nat.mul_le_mul_right _ (by omega)
  have hnone : a = none → (m.den ρ 0).toNat = 0 := by
    rintro rfl
    obtain ⟨_, _, he, hnil, _⟩ := (sli_rd hS).1
    rw [hv0] at he
    cases he
    have := hnil rfl
    omega
  obtain ⟨w', g1, g2, g3, g4, g5, g6⟩ := sliHP_put (P := P) hS ((r.p.lo.den ρ 0).toNat * r.s) hbnd (tab_one _ _) ((a.getD ⟨0, 0, none⟩).add ((r.p.lo.den ρ 0).toNat * r.s)) (fun hpos' => by
    rw [hv0]
    cases a with
    | none =>
      have := hnone rfl
      rw [hnl, this, Nat.zero_mul] at hpos'
      omega
    | some a => rfl)
  have hz : (m.den ρ 0).toNat = 0 → tabCells ρ (m.den ρ 0).toNat sc = [] := fun h => List.eq_nil_of_length_eq_zero (by rw [hnl, h, Nat.zero_mul])
  refine ⟨_, _, hx, w', ?_, fun h => g6 (hz h), fun h => ?_, ⟨⟨_, hj, by rw [hmd]; rfl⟩, rfl, g2, g3, g4, ?_⟩⟩
  · intro ad had
    by_cases h0 : (m.den ρ 0).toNat = 0
    · rw [hz h0] at g6 ⊢
      rw [g6 rfl]
      rfl
    · cases a with
      | none => simp at had
      | some a0 =>
        simp only [Option.map_some, Option.some.injEq] at had
        subst had
        have htop : (r.p.lo.den ρ 0).toNat < ((r.p.mx.map fun m => m.den ρ 0).map Int.toNat).getD c := by
          cases hmx : (r.p.mx.map fun m => m.den ρ 0) with
          | none => simp only [Option.map_none, Option.getD_none]; omega
          | some q => have := h3 q hmx; simp only [Option.map_some, Option.getD_some]; omega
        rw [hk (.inl htop)]
        exact g1
  · cases a with
    | some a => simp at h
    | none => exact g6 (hz (hnone rfl))
  · simp only [Ck.den]
    rw [tabCells_eq, htab]
    rw [hnl] at g5
    exact g5

theorem zero_flat {te : TI} {z : Value} {zc : List Col} (hzc : zeroCols T te = some zc) (hc : SV.cellsL ρ te.zero = z.cells.toList) (hzs : z.cells.size = te.size) (n : Nat) :
    (Builtin.zeroCells z.cells n).toList = tabCells ρ n zc := by
  obtain ⟨z1, z2, z3⟩ := zeroCols_spec (ρ := ρ) hzc
  rw [zero_tab hzc, hc]
  unfold Builtin.zeroCells
  exact rep_mod _ _ (by omega)

theorem clearSym_sound (hT : checkT P T = true) {ts : TypeId} {tt : TI} (htt : tlook T ts = some tt) {x : SV} {res : Res} (h : clearSym T hp tt.k x = some res)
    (hrd : Reads hp ρ w S res.rd) (hvc : ∀ b ∈ res.vcs, b.prop ρ) (ty : TypeId) :
    Did P ρ w hp S nb nv ((do pure (.value (← Builtin.clear_ #[ts] ty #[x.val ρ])) : Sem Next).run P w) res := by
  unfold clearSym at h
  split at h
  · rename_i e hk
    cases h
    obtain ⟨rfl, htt'⟩ := tlook_spec hT htt
    have hkk := htt'.kind
    rw [hk] at hkk
    have hu := kind_slice hkk
    show (Sem.run P _ w) = .ok (Next.value (SV.undef.val ρ)) w
    simp [Builtin.clear_, run_underlying hu, SV.val, undef]
  · rename_i e hk _
    split at h
    · rename_i te r hte hr
      obtain ⟨rfl, htt'⟩ := tlook_spec hT htt
      obtain ⟨rfl, hti⟩ := tlook_spec hT hte
      have hkk := htt'.kind
      rw [hk] at hkk
      have hu := kind_slice hkk
      obtain ⟨i, hi, hsz, hby, z, hz, hc⟩ := hti.info
      have hzs : z.cells.size = te.size := by rw [← Array.length_toList, ← hc ρ, cellsL_length, hti.zlen]
      split at h
      · rename_i zc hzc
        split at h
        · rename_i hcond
          obtain ⟨hs, hw, hmd⟩ := hcond
          rw [Option.map_eq_some_iff] at h
          obtain ⟨cols', hcols, rfl⟩ := h
          simp only at hvc hrd
          obtain ⟨v1, v2⟩ := mem_app hvc
          have v2 := bLe'_prop v2
          simp only [E.den] at v2
          obtain ⟨_, z2, z3⟩ := zeroCols_spec (ρ := ρ) hzc
          obtain ⟨a, c, hx, w', s1, s2, s3, s4⟩ := sub_put (P := P) hr hrd v1 hmd hw v2 v2 (Int.le_refl _) (z2.trans hs.symm) hcols
          refine ⟨w', .inl ?_, s4⟩
          rw [hx]
          cases a with
          | none =>
            rw [s3 rfl]
            simp [Builtin.clear_, run_underlying hu, SV.val, undef]
          | some ad =>
            by_cases h0 : (r.p.len.den ρ 0).toNat = 0
            · rw [s2 h0, h0]
              simp [Builtin.clear_, run_underlying hu, SV.val, undef]
            · obtain ⟨N, hN⟩ : ∃ N, (r.p.len.den ρ 0).toNat = N + 1 := ⟨(r.p.len.den ρ 0).toNat - 1, by omega⟩
              have hst := s1 ad rfl
              rw [← zero_flat hzc (hc ρ) hzs, hN] at hst
              rw [hN]
              obtain ⟨z', hz', _⟩ := hti.zero w
              have hzz : (zeroValue te.t).run P w = .ok z w := by simp [zeroValue, typeInfo, hi, hz]
              simp [Builtin.clear_, run_underlying hu, hzz, hst, SV.val, undef]
        · cases h
      · cases h
    · cases h
  · cases h

theorem eMin_den (a b : E) : (eMin a b).den ρ 0 = min (a.den ρ 0) (b.den ρ 0) := by
  unfold eMin
  split
  · rfl
  · split
    · rename_i h
      subst h
      simp
    · simp only [E.den, iop]
      omega

theorem run_copy_any (ts ty e : TypeId) (i : TypeInfo) (ht : P.underlying ts = some (.slice e)) (hi : P.info? e = some i) (a : Option Addr) (N C : Nat) (y : Value) (m : Nat) (news : List Value)
    (hy : World.rdRow w y m news) (hl : news.length = m * i.size) {w' : World} (hs : ∀ ad, a = some ad → (storeCells ad (news.take (Nat.min m N * i.size))).run P w = .ok () w') (hn : a = none → w' = w) :
    (Builtin.copy_ #[ts, ts] ty #[.slice a N C, y]).run P w = .ok (goInt (Nat.min m N)) w' := by
  obtain ⟨q1, q2⟩ := rdRow_first (P := P) hy hl
  have q2 := q2 (Nat.min m N) (Nat.min_le_left _ _)
  cases a with
  | none =>
    have := hn rfl
    subst this
    simp [Builtin.copy_, run_underlying ht, sizeOf, typeInfo, hi, q1, q2]
  | some ad =>
    have := hs ad rfl
    simp [Builtin.copy_, run_underlying ht, sizeOf, typeInfo, hi, q1, q2, this]

theorem seg_spl (k : IntKind) (N i m : Nat) (f g h : Nat → Int) (hle : i + m ≤ N) (hh : ∀ j, h j = if i ≤ j ∧ j < i + m then g (j - i) else f j) :
    segCells k N h = (segCells k N f).take i ++ segCells k m g ++ (segCells k N f).drop (i + m) := by
  have e : ∀ (n : Nat) (q : Nat → Int), segCells k n q = tabF (fun j => [.int k (q j)]) n := by
    intro n q
    unfold segCells tabF
    induction n with
    | zero => rfl
    | succ n ih => rw [List.range_succ, List.flatMap_append, List.map_append, ih]; simp
  have := tabF_spl (f := fun j => [.int k (f j)]) (g := fun j => [.int k (g j)]) (h := fun j => [.int k (h j)]) (s := 1) (fun _ => rfl) N i m hle (fun j => by rw [hh]; split <;> rfl)
  rw [Nat.mul_one, Nat.mul_one] at this
  rw [e, e, e]
  exact this

theorem copySym_sound (hT : checkT P T = true) {ts : TypeId} {tt : TI} (htt : tlook T ts = some tt) {x y : SV} {res : Res} (h : copySym T hp tt.k x y = some res)
    (hrd : Reads hp ρ w S res.rd) (hvc : ∀ b ∈ res.vcs, b.prop ρ) (ty : TypeId) :
    Did P ρ w hp S nb nv ((do pure (.value (← Builtin.copy_ #[ts, ts] ty #[x.val ρ, y.val ρ])) : Sem Next).run P w) res := by
  unfold copySym at h
  split at h
  · rename_i t hk
    split at h
    · rename_i te hte
      obtain ⟨rfl, htt'⟩ := tlook_spec hT htt
      obtain ⟨rfl, hti⟩ := tlook_spec hT hte
      have hkk := htt'.kind
      rw [hk] at hkk
      have hu := kind_slice hkk
      obtain ⟨i, hi, hsz, hby, z, hz, hc⟩ := hti.info
      split at h
      · rename_i sc hsc
        split at h
        · rename_i b ix s n cap
          split at h
          · rename_i j b' cs hf
            obtain ⟨hj, hat⟩ := findAt_spec hf
            simp only [Ck.isAt, beq_iff_eq] at hat
            subst hat
            split at h
            · cases h
            · rename_i hs0
              have hs : s = te.size := by
                apply Classical.byContradiction
                intro hne
                exact hs0 (.inl hne)
              split at h
              · rename_i k N a
                split at h
                · rename_i k' a' hcols
                  split at h
                  · rename_i hcond
                    obtain ⟨hs1, rfl⟩ := hcond
                    cases h
                    simp only at hvc hrd
                    obtain ⟨v1, v5⟩ := mem_app hvc
                    obtain ⟨v1, v4⟩ := mem_app v1
                    obtain ⟨v1, v3⟩ := mem_app v1
                    obtain ⟨v1, v2⟩ := mem_app v1
                    have v2 := bLe'_prop v2
                    have v3 := bLe'_prop v3
                    have v4 := bLe'_prop v4
                    have v5 := bLe'_prop v5
                    rw [eAdd_den] at v5
                    simp only [E.den] at v2 v3 v4 v5
                    obtain ⟨_, s2, s3⟩ := srcOf_spec (te := te) hsc (fun j hj => hrd j (List.mem_cons_of_mem _ hj)) v1 v2
                    have hS := hrd j (by simp) _ hj
                    have hS : (rowHP (ρ.bv.getD b 0) true (segCells k N (a.den ρ))).p w (S j) := by
                      simpa [Ck.den, SV.cellsL, SV.cells] using hS
                    rw [hcols] at s3
                    have hmn : ((eMin sc.n n).den ρ 0).toNat = Nat.min (sc.n.den ρ 0).toNat (n.den ρ 0).toNat := by
                      rw [eMin_den]
                      simp only [Nat.min_def, Int.min_def]
                      split <;> split <;> omega
                    have hle1 : Nat.min (sc.n.den ρ 0).toNat (n.den ρ 0).toNat ≤ (sc.n.den ρ 0).toNat := Nat.min_le_left _ _
                    have hle2 : Nat.min (sc.n.den ρ 0).toNat (n.den ρ 0).toNat ≤ (n.den ρ 0).toNat := Nat.min_le_right _ _
                    have htk : (tabCells ρ (sc.n.den ρ 0).toNat [⟨.int k, 1, a'⟩]).take (Nat.min (sc.n.den ρ 0).toNat (n.den ρ 0).toNat * i.size) = segCells k (Nat.min (sc.n.den ρ 0).toNat (n.den ρ 0).toNat) (a'.den ρ) := by
                      rw [tab_single, hsz, ← hs, hs1, Nat.mul_one]
                      exact segCells_take k _ _ _ hle1
                    obtain ⟨g1, g2⟩ := rowHP_set (P := P) hS (ix.den ρ 0).toNat (vs := segCells k (Nat.min (sc.n.den ρ 0).toNat (n.den ρ 0).toNat) (a'.den ρ)) (by rw [segCells_length, segCells_length]; omega)
                      (fun u hu => by simp only [segCells, List.mem_map] at hu; obtain ⟨_, _, rfl⟩ := hu; rfl)
                    have hrun := run_copy_any (P := P) tt.t ty te.t i hu hi (some ⟨ρ.bv.getD b 0, (ix.den ρ 0).toNat * s, none⟩) (n.den ρ 0).toNat (cap.den ρ 0).toNat _ _ _ s3 (by rw [tab_single, segCells_length, hsz, ← hs, hs1, Nat.mul_one])
                      (fun ad had => by
                        cases had
                        rw [htk, hs1, Nat.mul_one]
                        exact g1) (by simp)
                    refine ⟨w.setCells (ρ.bv.getD b 0) (ix.den ρ 0).toNat (segCells k (Nat.min (sc.n.den ρ 0).toNat (n.den ρ 0).toNat) (a'.den ρ)), .inl ?_, ⟨⟨_, hj, rfl⟩, rfl, setCells_same _ _ _ _, setCells_size _ _ _ _, fun k hk => setCells_other _ _ _ _ _ (fun e => hk ((hS.1 k).2 e)), ?_⟩⟩
                    · have e1 : (SV.sl b ix s n cap).val ρ = .slice (some ⟨ρ.bv.getD b 0, (ix.den ρ 0).toNat * s, none⟩) (n.den ρ 0).toNat (cap.den ρ 0).toNat := rfl
                      rw [e1]
                      simp only [Sem.run_bind, hrun, Result.andThen_ok, Sem.run_pure, SV.val, goInt]
                      congr 3
                      have : 0 ≤ (eMin sc.n n).den ρ 0 := by rw [eMin_den]; omega
                      omega
                    · rw [segCells_length] at g2
                      have := seg_spl k N (ix.den ρ 0).toNat (Nat.min (sc.n.den ρ 0).toNat (n.den ρ 0).toNat) (a.den ρ) (a'.den ρ) ((E.spl a ix (eMin sc.n n) a').den ρ) (by omega) (fun j => by simp only [E.den, hmn])
                      simp only [Ck.den, SV.cellsL, SV.cells, List.append_nil]
                      rw [this]
                      exact g2
                  · cases h
                · cases h
              · split at h
                · rename_i i0 n0 m0 k' a' hi0 hn0 hm0 hcols
                  split at h
                  · rename_i hs1
                    rw [Option.map_eq_some_iff] at h
                    obtain ⟨cs', hput, rfl⟩ := h
                    simp only at hvc hrd
                    have di := litNat_den (ρ := ρ) hi0
                    have dn := litNat_den (ρ := ρ) hn0
                    have dm := litNat_den (ρ := ρ) hm0
                    obtain ⟨_, s2, s3⟩ := srcOf_spec (te := te) hsc (fun j hj => hrd j (List.mem_cons_of_mem _ hj)) hvc (by omega)
                    have hS := hrd j (by simp) _ hj
                    rw [hcols, dm, Int.toNat_natCast] at s3
                    obtain ⟨p1, p2⟩ := rowPut_cells ρ hput
                    have hcl : SV.cellsL ρ [SV.seg k' (min m0 n0) a'] = segCells k' (min m0 n0) (a'.den ρ) := by simp [SV.cellsL, SV.cells]
                    rw [hcl] at p1 p2
                    obtain ⟨g1, g2⟩ := rowHP_set (P := P) hS i0 p2 (fun u hu => by simp only [segCells, List.mem_map] at hu; obtain ⟨_, _, rfl⟩ := hu; rfl)
                    have htk : (tabCells ρ m0 [⟨.int k', 1, a'⟩]).take (Nat.min m0 n0 * i.size) = segCells k' (min m0 n0) (a'.den ρ) := by
                      rw [tab_single, hsz, ← hs, hs1, Nat.mul_one]
                      exact segCells_take k' _ _ _ (Nat.min_le_left _ _)
                    have hrun := run_copy_any (P := P) tt.t ty te.t i hu hi (some ⟨ρ.bv.getD b 0, i0, none⟩) n0 (cap.den ρ 0).toNat _ _ _ s3 (by rw [tab_single, segCells_length, hsz, ← hs, hs1, Nat.mul_one])
                      (fun ad had => by
                        cases had
                        rw [htk]
                        exact g1) (by simp)
                    refine ⟨w.setCells (ρ.bv.getD b 0) i0 (segCells k' (min m0 n0) (a'.den ρ)), .inl ?_, ⟨⟨_, hj, rfl⟩, rfl, setCells_same _ _ _ _, setCells_size _ _ _ _, fun k hk => setCells_other _ _ _ _ _ (fun e => hk ((hS.1 k).2 e)), ?_⟩⟩
                    · have e1 : (SV.sl b ix s n cap).val ρ = .slice (some ⟨ρ.bv.getD b 0, i0, none⟩) n0 (cap.den ρ 0).toNat := by simp [SV.val, di, dn, hs1]
                      rw [e1]
                      simp only [Sem.run_bind, hrun, Result.andThen_ok, Sem.run_pure, SV.val, goInt, E.den]
                    · simp only [Ck.den, p1]
                      exact g2
                  · cases h
                · cases h
          · cases h
        · split at h
          · rename_i r hr
            split at h
            · rename_i hcond
              obtain ⟨ht, hs, hw, hmd, hpos⟩ := hcond
              rw [Option.map_eq_some_iff] at h
              obtain ⟨cols', hcols, rfl⟩ := h
              simp only at hvc hrd
              obtain ⟨v1, v4⟩ := mem_app hvc
              obtain ⟨v1, v3⟩ := mem_app v1
              obtain ⟨v1, v2⟩ := mem_app v1
              have v3 := bLe'_prop v3
              have v4 := bLe'_prop v4
              simp only [E.den] at v3 v4
              have hrj : Reads hp ρ w S [r.j] := fun j hj => hrd j (by simp at hj; simp [hj])
              obtain ⟨_, s2, s3⟩ := srcOf_spec (te := te) hsc (fun j hj => hrd j (List.mem_cons_of_mem _ hj)) v2 v4
              have hm0 : 0 ≤ (eMin sc.n r.p.len).den ρ 0 := by rw [eMin_den]; omega
              have hml : (eMin sc.n r.p.len).den ρ 0 ≤ r.p.len.den ρ 0 := by rw [eMin_den]; omega
              have hmn : ((eMin sc.n r.p.len).den ρ 0).toNat = Nat.min (sc.n.den ρ 0).toNat (r.p.len.den ρ 0).toNat := by
                rw [eMin_den]
                simp only [Nat.min_def, Int.min_def]
                split <;> split <;> omega
              obtain ⟨a, c, hx, w', q1, q2, q3, q4⟩ := sub_put (P := P) hr hrj v1 hmd hw v3 hm0 hml (s2.trans hs.symm) hcols
              refine ⟨w', .inl ?_, by rw [← ht]; exact q4⟩
              have hrun := run_copy_any (P := P) tt.t ty te.t i hu hi a (r.p.len.den ρ 0).toNat c _ _ _ s3 (by rw [tab_length, s2, hsz]) (fun ad had => by
                have := q1 ad had
                have hct := cells_take_tab (ρ := ρ) (sc.n.den ρ 0).toNat (Nat.min (sc.n.den ρ 0).toNat (r.p.len.den ρ 0).toNat) sc.cols (Nat.min_le_left _ _)
                rw [s2] at hct
                rw [hsz, hct, ← hmn]
                exact this) q3
              rw [hx]
              simp only [Sem.run_bind, hrun, Result.andThen_ok, Sem.run_pure, SV.val, goInt]
              congr 3
              omega
            · cases h
          · cases h
      · cases h
    · cases h
  · cases h

end
end Go.RX

namespace Go.RX

/-! ### the number of a row -/
theorem zig_inj {a b : Int} (h : zig a = zig b) : a = b := by
  cases a <;> cases b <;> simp only [zig] at h
  · congr 1; omega
  · omega
  · omega
  · congr 1; omega
theorem odd_pow {a b L M : Nat} (h : (2 * a + 1) * 2 ^ L = (2 * b + 1) * 2 ^ M) : a = b ∧ L = M := by
  induction L generalizing M with
  | zero =>
    cases M with
    | zero => simp only [Nat.pow_zero, Nat.mul_one] at h; exact ⟨by omega, rfl⟩
    | succ M =>
      rw [Nat.pow_succ, Nat.pow_zero, Nat.mul_one, ← Nat.mul_assoc] at h
      omega
  | succ L ih =>
    cases M with
    | zero =>
      rw [Nat.pow_succ, Nat.pow_zero, Nat.mul_one, ← Nat.mul_assoc] at h
      omega
    | succ M =>
      rw [Nat.pow_succ, Nat.pow_succ, ← Nat.mul_assoc, ← Nat.mul_assoc] at h
      have := ih (Nat.eq_of_mul_eq_mul_right (by omega) h)
      exact ⟨this.1, by omega⟩
theorem kcode1_inj {a b : Nat} {x y : Int} (h : kcode1 a x = kcode1 b y) : a = b ∧ x = y := by
  unfold kcode1 at h
  obtain ⟨h1, h2⟩ := odd_pow h
  rw [h2] at h1
  have hx : zig x < 2 ^ ((zig y).log2 + 1) := by rw [← h2]; exact Nat.lt_log2_self
  have hy : zig y < 2 ^ ((zig y).log2 + 1) := Nat.lt_log2_self
  generalize 2 ^ ((zig y).log2 + 1) = N at h1 hx hy
  have e1 : a = b := by
    have p : (a * N + zig x) / N = a := by rw [Nat.mul_comm, Nat.mul_add_div (by omega), Nat.div_eq_of_lt hx, Nat.add_zero]
    have q : (b * N + zig y) / N = b := by rw [Nat.mul_comm, Nat.mul_add_div (by omega), Nat.div_eq_of_lt hy, Nat.add_zero]
    rw [← p, ← q, h1]
  subst e1
  exact ⟨rfl, zig_inj (by omega)⟩
theorem kcode_go : ∀ (l m : List Int) (a b : Nat), l.length = m.length → l.foldl kcode1 a = m.foldl kcode1 b → a = b ∧ l = m
  | [], [], a, b, _, h => ⟨h, rfl⟩
  | [], _ :: _, _, _, hl, _ => by simp at hl
  | _ :: _, [], _, _, hl, _ => by simp at hl
  | x :: l, y :: m, a, b, hl, h => by
    simp only [List.foldl_cons] at h
    obtain ⟨h1, h2⟩ := kcode_go l m _ _ (by simpa using hl) h
    obtain ⟨h3, h4⟩ := kcode1_inj h1
    exact ⟨h3, by rw [h4, h2]⟩
theorem kcode_inj {l m : List Int} (hl : l.length = m.length) (h : kcode l = kcode m) : l = m := (kcode_go l m 0 0 hl h).2

/-! ### keys -/
theorem mkI_inj : ∀ {kl : List IntKind} {a b : List Int}, a.length = kl.length → b.length = kl.length → mkI kl a = mkI kl b → a = b
  | [], a, b, ha, hb, _ => by
    rw [List.eq_nil_of_length_eq_zero ha, List.eq_nil_of_length_eq_zero hb]
  | k :: kl, [], _, ha, _, _ => by simp at ha
  | k :: kl, _ :: _, [], _, hb, _ => by simp at hb
  | k :: kl, x :: a, y :: b, ha, hb, h => by
    simp only [mkI, List.zip_cons_cons, List.map_cons, List.cons.injEq, Value.int.injEq, true_and] at h
    rw [h.1, mkI_inj (by simpa using ha) (by simpa using hb) h.2]
theorem mkI_fit : ∀ {kl : List IntKind} {a : List Int}, a.length = kl.length → fitV (mkI kl a) (kl.map some)
  | [], a, ha => by rw [List.eq_nil_of_length_eq_zero ha]; trivial
  | k :: kl, [], ha => by simp at ha
  | k :: kl, x :: a, ha => by
    simp only [mkI, List.zip_cons_cons, List.map_cons, fitV, true_and]
    exact mkI_fit (by simpa using ha)
theorem mkI_eqV : ∀ {kl : List IntKind} {a b : List Int}, a.length = kl.length → b.length = kl.length → eqV (mkI kl a) (mkI kl b) = decide (a = b)
  | [], a, b, ha, hb => by
    rw [List.eq_nil_of_length_eq_zero ha, List.eq_nil_of_length_eq_zero hb]; rfl
  | k :: kl, [], _, ha, _ => by simp at ha
  | k :: kl, _ :: _, [], _, hb => by simp at hb
  | k :: kl, x :: a, y :: b, ha, hb => by
    have ih := mkI_eqV (kl := kl) (a := a) (b := b) (by simpa using ha) (by simpa using hb)
    unfold mkI at ih
    simp only [mkI, List.zip_cons_cons, List.map_cons, eqV, ih]
    by_cases h1 : x = y <;> by_cases h2 : a = b <;> simp [h1, h2]
theorem mkI_one : ∀ {kl : List IntKind} {a : List Int}, ∀ u ∈ mkI kl a, ∃ k n, u = .int k n := by
  intro kl a u hu
  simp only [mkI, List.mem_map] at hu
  obtain ⟨x, _, rfl⟩ := hu
  exact ⟨_, _, rfl⟩

theorem encK_agg (kl : List IntKind) (ks : List Int) : encK true kl ks = .agg (mkI kl ks).toArray := rfl
theorem encK_inj {ka : Bool} {kl : List IntKind} (hk : ka = false → ∃ k, kl = [k]) {a b : List Int} (ha : a.length = kl.length) (hb : b.length = kl.length) (h : encK ka kl a = encK ka kl b) : a = b := by
  cases ka with
  | true =>
    rw [encK_agg, encK_agg] at h
    have := congrArg (fun v => match v with | .agg c => c.toList | _ => []) h
    exact mkI_inj ha hb (by simpa using this)
  | false =>
    obtain ⟨k, rfl⟩ := hk rfl
    match a, b, ha, hb with
    | [x], [y], _, _ => simpa [encK] using h

section
variable {P : Program} {w : World}

theorem run_checkKey_lay (em : Bool) (k : Nat) : ∀ (d : Nat) (t : TypeId) (L : List CellK), layOf P d t = some L → ∀ (xs : List Value) (x : Value), fitV xs L → VOf P t xs x → (Instr.checkKey em (k + d) t x).run P w = .ok () w
  | 0, t, L, h => by simp [layOf] at h
  | d + 1, t, L, h => by
    intro xs x hx vx
    rw [show k + (d + 1) = (k + d) + 1 from rfl, Instr.checkKey]
    unfold layOf at h
    cases hu : P.underlying t with
    | none => simp [hu] at h
    | some td =>
      rw [hu] at h
      simp only [VOf, hu] at vx
      simp only [Sem.run_bind, run_underlying hu, Result.andThen_ok]
      cases td with
      | int q =>
        simp only [Option.some.injEq] at h
        subst h vx
        cases x <;> simp only [fitV] at hx
        rfl
      | bool =>
        simp only [Option.some.injEq] at h
        subst h vx
        cases x <;> simp only [fitV] at hx
        rfl
      | array n e =>
        simp only at h vx
        subst vx
        split at h
        · rename_i l hl
          split at h
          · rename_i hs
            simp only [Option.some.injEq] at h
            subst h
            have hs' : P.cellsOf e = l.length := by simpa using hs
            have hinfo : ∃ i, P.info? e = some i := by
              cases d with
              | zero => simp [layOf] at hl
              | succ d =>
                cases hi : P.info? e with
                | none => simp [layOf, Program.underlying, hi] at hl
                | some i => exact ⟨i, rfl⟩
            obtain ⟨i, hi⟩ := hinfo
            have hsz : i.size = l.length := by simpa [Program.cellsOf, hi] using hs'
            dsimp only
            simp only [Std.Legacy.Range.forIn_eq_forIn_range', Std.Legacy.Range.size, Nat.sub_zero, Nat.add_one_sub_one, Nat.div_one]
            have key : ∀ (m j : Nat), fitV (xs.drop (j * l.length)) (List.replicate m l).flatten →
                (forIn (List.range' j m) PUnit.unit fun i _ => (do
                  let s ← sizeOf e
                  let a ← part e xs.toArray (i * s)
                  Instr.checkKey em (k + d) e a
                  pure (ForInStep.yield PUnit.unit) : Sem (ForInStep PUnit))).run P w = .ok () w := by
              intro m
              induction m with
              | zero => intro j _; simp
              | succ m ih =>
                intro j hf
                rw [List.replicate_succ, List.flatten_cons] at hf
                obtain ⟨h1, h2⟩ := fitV_append hf
                rw [List.drop_drop] at h2
                obtain ⟨a, pa, va⟩ := run_part_lay w hl hs' xs (j * l.length) h1
                have hc := run_checkKey_lay em k d e l hl _ _ h1 va
                have ih' := ih (j + 1) (by rw [Nat.add_mul, Nat.one_mul]; exact h2)
                rw [List.range'_succ]
                simp only [List.forIn_cons, Sem.run_bind, run_sizeOf w hi, Result.andThen_ok, hs', pa, hc, Sem.run_pure]
                exact ih'
            have := key n 0 (by simpa using hx)
            simpa [Sem.run_bind] using this
          · cases h
        · cases h
      | struct fs =>
        simp only at h vx
        subst vx
        split at h
        · cases h
        · dsimp only
          rw [← Array.forIn_toList]
          have key : ∀ (L : List Field) (off : Nat) (l : List CellK), layFields P (layOf P d) L off = some l → fitV (xs.drop off) l →
              (forIn L PUnit.unit fun f _ => (do
                if f.name ≠ "_" then
                  Instr.checkKey em (k + d) f.type (← part f.type xs.toArray f.offset)
                  pure (ForInStep.yield PUnit.unit)
                else pure (ForInStep.yield PUnit.unit) : Sem (ForInStep PUnit))).run P w = .ok () w := by
            intro L
            induction L with
            | nil => intro off l _ _; simp
            | cons f L ih =>
              intro off l hl hf
              unfold layFields at hl
              split at hl
              · cases hl
              · rename_i hn
                simp only [Bool.or_eq_true, beq_iff_eq, bne_iff_ne, ne_eq, not_or, Decidable.not_not] at hn
                obtain ⟨hn, rfl⟩ := hn
                split at hl
                · rename_i l1 hl1
                  split at hl
                  · rename_i hs
                    rw [Option.map_eq_some_iff] at hl
                    obtain ⟨L', hL', rfl⟩ := hl
                    have hs' : P.cellsOf f.type = l1.length := by simpa using hs
                    obtain ⟨h1, h2⟩ := fitV_append hf
                    rw [List.drop_drop] at h2
                    obtain ⟨a, pa, va⟩ := run_part_lay w hl1 hs' xs f.offset h1
                    have hc := run_checkKey_lay em k d _ _ hl1 _ _ h1 va
                    have ih' := ih _ _ hL' h2
                    simp only [List.forIn_cons, Sem.run_bind, hn, ne_eq, not_false_eq_true, if_true, Result.andThen_ok, pa, hc, Sem.run_pure]
                    exact ih'
                  · cases hl
                · cases hl
          have := key fs.toList 0 L h (by simpa using hx)
          simpa [Sem.run_bind] using this
      | _ => simp at h

theorem findNow_int (k : IntKind) (n : Int) : ∀ (es : List MapEntry) (i : Nat), (∀ e ∈ es, ∃ m, e.key = .int k m) →
    (Instr.findNow (.int k) (.int k n) es i = some none ∧ ∀ e ∈ es, e.key ≠ .int k n) ∨
    ∃ j e, Instr.findNow (.int k) (.int k n) es i = some (some (i + j, e.val)) ∧ es[j]? = some e ∧ e.key = .int k n
  | [], i, _ => .inl ⟨rfl, by simp⟩
  | e :: es, i, h => by
    obtain ⟨m, hm⟩ := h e (by simp)
    by_cases hnm : n = m
    · subst hnm
      exact .inr ⟨0, e, by simp [Instr.findNow, hm, Instr.sameNow], rfl, hm⟩
    · have hs : Instr.sameNow (.int k) (.int k n) e.key = some false := by rw [hm]; simp [Instr.sameNow, hnm]
      rcases findNow_int k n es (i + 1) (fun x hx => h x (by simp [hx])) with ⟨h1, h2⟩ | ⟨j, e', h1, h2, h3⟩
      · refine .inl ⟨by simp only [Instr.findNow, hs, h1], fun x hx => ?_⟩
        rcases List.mem_cons.1 hx with rfl | hx
        · rw [hm]; simp; exact fun h => hnm h.symm
        · exact h2 x hx
      · exact .inr ⟨j + 1, e', by simp only [Instr.findNow, hs, h1]; simp [Nat.add_assoc, Nat.add_comm 1 j], by simpa using h2, h3⟩

theorem findAsk_agg {kt : TypeId} {kl : List IntKind} (hl : layOf P 12 kt = some (kl.map some)) (ha : ∀ cs : List Value, VOf P kt cs (.agg cs.toArray)) {ks : List Int} (hk : ks.length = kl.length) :
    ∀ (es : List MapEntry) (i : Nat), (∀ e ∈ es, ∃ m : List Int, m.length = kl.length ∧ e.key = encK true kl m) →
      ((Instr.findAsking kt (encK true kl ks) es i).run P w = .ok none w ∧ ∀ e ∈ es, e.key ≠ encK true kl ks) ∨
      ∃ j e, (Instr.findAsking kt (encK true kl ks) es i).run P w = .ok (some (i + j, e.val)) w ∧ es[j]? = some e ∧ e.key = encK true kl ks
  | [], i, _ => .inl ⟨by simp [Instr.findAsking], by simp⟩
  | e :: es, i, h => by
    obtain ⟨m, hm, hem⟩ := h e (by simp)
    have heq : (Op.equal kt (encK true kl ks) e.key).run P w = .ok (decide (ks = m)) w := by
      have := equalIn_lay (P := P) 9988 12 kt _ hl w _ _ (encK true kl ks) e.key (mkI_fit hk) (mkI_fit hm) (ha _) (by rw [hem]; exact ha _)
      rw [mkI_eqV hk hm] at this
      exact this
    by_cases hkm : ks = m
    · subst hkm
      exact .inr ⟨0, e, by simp [Instr.findAsking, heq], rfl, hem⟩
    · rcases findAsk_agg hl ha hk es (i + 1) (fun x hx => h x (by simp [hx])) with ⟨h1, h2⟩ | ⟨j, e', h1, h2, h3⟩
      · refine .inl ⟨by simp [Instr.findAsking, heq, hkm, h1], fun x hx => ?_⟩
        rcases List.mem_cons.1 hx with rfl | hx
        · rw [hem]
          intro he
          exact hkm (encK_inj (by simp) hm hk he).symm
        · exact h2 x hx
      · exact .inr ⟨j + 1, e', by simp [Instr.findAsking, heq, hkm, h1, Nat.add_assoc, Nat.add_comm 1 j], by simpa using h2, h3⟩

/-- What is known of a key type. -/
structure KeyT (P : Program) (kt : TypeId) (kl : List IntKind) (ka : Bool) : Prop where
  lay : layOf P 12 kt = some (kl.map some)
  one : ka = false → ∃ k, kl = [k] ∧ P.underlying kt = some (.int k)
  agg : ka = true → (∀ cs : List Value, VOf P kt cs (.agg cs.toArray)) ∧ (match P.underlying kt with | some (.array _ _) | some (.struct _) => true | _ => false) = true

theorem KeyT.val {kt : TypeId} {kl : List IntKind} {ka : Bool} (h : KeyT P kt kl ka) {ks : List Int} (hk : ks.length = kl.length) : VOf P kt (mkI kl ks) (encK ka kl ks) := by
  cases ka with
  | true => exact (h.agg rfl).1 _
  | false =>
    obtain ⟨k, rfl, hu⟩ := h.one rfl
    match ks, hk with
    | [x], _ => simp [VOf, hu, mkI, encK]

theorem KeyT.inj {kt : TypeId} {kl : List IntKind} {ka : Bool} (h : KeyT P kt kl ka) {a b : List Int} (ha : a.length = kl.length) (hb : b.length = kl.length) (he : encK ka kl a = encK ka kl b) : a = b :=
  encK_inj (fun hk => by obtain ⟨k, h1, _⟩ := h.one hk; exact ⟨k, h1⟩) ha hb he

theorem run_findKey_map {kt : TypeId} {kl : List IntKind} {ka : Bool} (h : KeyT P kt kl ka) {ks : List Int} (hk : ks.length = kl.length) (es : List MapEntry)
    (hes : ∀ e ∈ es, ∃ m : List Int, m.length = kl.length ∧ e.key = encK ka kl m) :
    ((Instr.findKey kt (encK ka kl ks) es).run P w = .ok none w ∧ ∀ e ∈ es, e.key ≠ encK ka kl ks) ∨
    ∃ j e, (Instr.findKey kt (encK ka kl ks) es).run P w = .ok (some (j, e.val)) w ∧ es[j]? = some e ∧ e.key = encK ka kl ks := by
  cases ka with
  | true =>
    obtain ⟨h1, h2⟩ := h.agg rfl
    rw [run_findKey_eq w h2]
    rcases findAsk_agg (P := P) (w := w) h.lay h1 hk es 0 hes with h | ⟨j, e, h3, h4, h5⟩
    · exact .inl h
    · exact .inr ⟨j, e, by simpa using h3, h4, h5⟩
  | false =>
    obtain ⟨k, rfl, hu⟩ := h.one rfl
    match ks, hk with
    | [n], _ =>
      have hes' : ∀ e ∈ es, ∃ m, e.key = .int k m := by
        intro e he
        obtain ⟨m, hm, hem⟩ := hes e he
        match m, hm with
        | [x], _ => exact ⟨x, hem⟩
      rcases findNow_int k n es 0 hes' with ⟨h1, h2⟩ | ⟨j, e, h1, h2, h3⟩
      · exact .inl ⟨by simp [Instr.findKey, run_underlying hu, encK, h1], h2⟩
      · exact .inr ⟨j, e, by simp [Instr.findKey, run_underlying hu, encK, h1], h2, h3⟩

theorem getMap {r : Nat} {es : Array MapEntry} {clock : Nat} (hb : w.heap[r]? = some (.map es clock)) : (getObj r).run P w = .ok (.map es clock) w := by simp [getObj, Sem.run, hb]
theorem setMap {r : Nat} {es : Array MapEntry} {clock : Nat} (o : Obj) (hb : w.heap[r]? = some (.map es clock)) : (setObj r o).run P w = .ok () { w with heap := w.heap.setIfInBounds r o } := by
  simp [setObj, Sem.run, hb]

theorem run_lookup_map {t kt vt : TypeId} (hm : P.underlying t = some (.map kt vt)) {kl : List IntKind} {ka va comma : Bool} (h : KeyT P kt kl ka) {ks : List Int} (hk : ks.length = kl.length)
    {b : Nat} {zero : List Value} {has : Nat → Bool} {row : Nat → List Value} {S : Nat → Prop} (hp : (mapHP b kl ka va zero has row).p w S) {z : Value} (hz : (zeroValue vt).run P w = .ok z w) (hze : encV va zero = z) :
    (Instr.lookup t (.map (some b)) (encK ka kl ks) comma).run P w = .ok (if comma then .tuple #[encV va (row (kcode ks)), .bool (has (kcode ks))] else encV va (row (kcode ks))) w := by
  obtain ⟨_, ⟨es, clock, hb, hes⟩, hzero⟩ := hp
  have hck := run_checkKey_lay (P := P) (w := w) es.isEmpty 9988 12 kt _ h.lay _ _ (mkI_fit hk) (h.val hk)
  simp only [Instr.lookup, Sem.run_bind, run_underlying hm, Result.andThen_ok, getMap hb, hck, Sem.run_pure]
  rcases run_findKey_map (P := P) (w := w) h hk es.toList (fun e he => by obtain ⟨m, h1, h2, _⟩ := hes.keys e he; exact ⟨m, h1, h2⟩) with ⟨h1, h2⟩ | ⟨j, e, h1, h2, h3⟩
  · have hno : has (kcode ks) = false := by
      cases hh : has (kcode ks) with
      | false => rfl
      | true =>
        obtain ⟨e, he, hke⟩ := hes.all ks hk hh
        exact absurd hke (h2 e he)
    rw [h1]
    simp only [Result.andThen_ok, Sem.run_bind, hz, Sem.run_pure, hno, hzero ks hk hno, hze]
  · obtain ⟨m, hm1, hm2, hm3, hm4⟩ := hes.keys e (List.mem_of_getElem? h2)
    have : m = ks := h.inj hm1 hk (hm2.symm.trans h3)
    subst this
    rw [h1]
    simp only [Result.andThen_ok, hm3, hm4]
    cases comma <;> rfl

theorem run_lookup_nil {t kt vt : TypeId} (hm : P.underlying t = some (.map kt vt)) {kl : List IntKind} {ka comma : Bool} (h : KeyT P kt kl ka) {ks : List Int} (hk : ks.length = kl.length)
    {z : Value} (hz : (zeroValue vt).run P w = .ok z w) :
    (Instr.lookup t (.map none) (encK ka kl ks) comma).run P w = .ok (if comma then .tuple #[z, .bool false] else z) w := by
  have hck := run_checkKey_lay (P := P) (w := w) (#[] : Array MapEntry).isEmpty 9988 12 kt _ h.lay _ _ (mkI_fit hk) (h.val hk)
  simp only [Instr.lookup, Sem.run_bind, run_underlying hm, Result.andThen_ok, hck, Sem.run_pure]
  have hf : (Instr.findKey kt (encK ka kl ks) (#[] : Array MapEntry).toList).run P w = .ok none w := by
    rcases run_findKey_map (P := P) (w := w) h hk [] (by simp) with ⟨h1, _⟩ | ⟨j, e, _, h2, _⟩
    · exact h1
    · simp at h2
  rw [hf]
  simp only [Result.andThen_ok, Sem.run_bind, hz, Sem.run_pure]

theorem sameBits_mk (n : Nat) : ∀ (l : List Value), (∀ u ∈ l, ∃ k m, u = .int k m) → ((l.zip l).all fun (x, y) => Instr.sameBits n x y) = true
  | [], _ => rfl
  | u :: r, h => by
    obtain ⟨k, m, rfl⟩ := h u (by simp)
    have := sameBits_mk n r (fun x hx => h x (by simp [hx]))
    simp only [List.zip_cons_cons, List.all_cons, this, Bool.and_true]
    cases n <;> simp [Instr.sameBits]
theorem run_stays (v : Value) (kl : List IntKind) (ka : Bool) (ks : List Int) (hk : ks.length = kl.length) (h1 : ka = false → ∃ k, kl = [k]) (hv : v = encK ka kl ks) :
    (Instr.keyThatStays v (encK ka kl ks)).run P w = .ok (encK ka kl ks) w := by
  subst hv
  have : Instr.sameBits 10000 (encK ka kl ks) (encK ka kl ks) = true := by
    cases ka with
    | true =>
      rw [encK_agg]
      simp only [Instr.sameBits, beq_self_eq_true, Bool.true_and]
      exact sameBits_mk _ _ mkI_one
    | false =>
      obtain ⟨k, rfl⟩ := h1 rfl
      match ks, hk with
      | [x], _ => simp [encK, Instr.sameBits]
  simp [Instr.keyThatStays, this]

theorem run_update_map {t kt vt : TypeId} (hm : P.underlying t = some (.map kt vt)) {kl : List IntKind} {ka va : Bool} (h : KeyT P kt kl ka) {ks : List Int} (hk : ks.length = kl.length)
    {b : Nat} {zero : List Value} {has : Nat → Bool} {row : Nat → List Value} {S : Nat → Prop} (hp : (mapHP b kl ka va zero has row).p w S) (v : Value) (vc : List Value) (hv : v = encV va vc)
    {has' : Nat → Bool} {row' : Nat → List Value} (hh : ∀ q, has' q = if q = kcode ks then true else has q) (hr : ∀ q, row' q = if q = kcode ks then vc else row q) :
    ∃ w', (Instr.mapUpdate t (.map (some b)) (encK ka kl ks) v).run P w = .ok () w' ∧ Same w w' ∧ w'.heap.size = w.heap.size ∧ (∀ k, k ≠ b → w'.heap[k]? = w.heap[k]?) ∧
      (mapHP b kl ka va zero has' row').p w' S := by
  obtain ⟨hS, ⟨es, clock, hb, hes⟩, hzero⟩ := hp
  have h1k : ka = false → ∃ k, kl = [k] := fun hk => by obtain ⟨k, h1, _⟩ := h.one hk; exact ⟨k, h1⟩
  have hck := run_checkKey_lay (P := P) (w := w) false 9988 12 kt _ h.lay _ _ (mkI_fit hk) (h.val hk)
  have hne : ∀ m : List Int, m.length = kl.length → m ≠ ks → kcode m ≠ kcode ks := fun m hm hn he => hn (kcode_inj (hm.trans hk.symm) he)
  have hblt : b < w.heap.size := (Array.getElem?_eq_some_iff.1 hb).1
  have zero' : ∀ m : List Int, m.length = kl.length → has' (kcode m) = false → row' (kcode m) = zero := by
    intro m hm hf
    rw [hh] at hf
    split at hf
    · cases hf
    · rename_i hne'
      rw [hr, if_neg hne']
      exact hzero m hm hf
  rcases run_findKey_map (P := P) (w := w) h hk es.toList (fun e he => by obtain ⟨m, h1, h2, _⟩ := hes.keys e he; exact ⟨m, h1, h2⟩) with ⟨h1, h2⟩ | ⟨j, e, h1, h2, h3⟩
  · refine ⟨{ w with heap := w.heap.setIfInBounds b (.map (es.push { key := encK ka kl ks, val := v, born := clock }) (clock + 1)) }, by simp only [Instr.mapUpdate, Sem.run_bind, run_underlying hm, Result.andThen_ok, getMap hb, hck, h1]; exact setMap _ hb, ⟨rfl, rfl, rfl, by simp⟩, by simp, fun k hk => ?_, hS, ⟨es.push { key := encK ka kl ks, val := v, born := clock }, clock + 1, ?_, ?_⟩, zero'⟩
    · simp only []
      rw [Array.getElem?_setIfInBounds_ne (Ne.symm hk)]
    · simp [hblt]
    · rw [Array.toList_push]
      refine ⟨fun e he => ?_, fun i j e e' hi hj heq => ?_, fun m hm hhm => ?_⟩
      · rcases List.mem_append.1 he with he | he
        · obtain ⟨m, m1, m2, m3, m4⟩ := hes.keys e he
          have hmn : m ≠ ks := fun h => h2 e he (by rw [m2, h])
          exact ⟨m, m1, m2, by rw [hh, if_neg (hne m m1 hmn)]; exact m3, by rw [hr, if_neg (hne m m1 hmn)]; exact m4⟩
        · simp only [List.mem_singleton] at he
          subst he
          exact ⟨ks, hk, rfl, by rw [hh, if_pos rfl], by rw [hr, if_pos rfl]; exact hv⟩
      · rw [List.getElem?_append] at hi hj
        split at hi <;> split at hj
        · exact hes.once i j e e' hi hj heq
        · rename_i a1 a2
          exfalso
          have : e' = { key := encK ka kl ks, val := v, born := clock } := by
            have := List.mem_of_getElem? hj
            simpa using this
          subst this
          exact h2 e (List.mem_of_getElem? hi) heq
        · exfalso
          have : e = { key := encK ka kl ks, val := v, born := clock } := by
            have := List.mem_of_getElem? hi
            simpa using this
          subst this
          exact h2 e' (List.mem_of_getElem? hj) heq.symm
        · have g1 := (List.getElem?_eq_some_iff.1 hi).1
          have g2 := (List.getElem?_eq_some_iff.1 hj).1
          simp only [List.length_cons, List.length_nil] at g1 g2
          omega
      · by_cases hmk : m = ks
        · subst hmk
          exact ⟨_, List.mem_append_right _ (List.mem_singleton.2 rfl), rfl⟩
        · rw [hh, if_neg (hne m hm hmk)] at hhm
          obtain ⟨e, he, hke⟩ := hes.all m hm hhm
          exact ⟨e, List.mem_append_left _ he, hke⟩
  · have hj : es[j]? = some e := by rw [← Array.getElem?_toList]; exact h2
    have hst := run_stays (P := P) (w := w) e.key kl ka ks hk h1k h3
    refine ⟨{ w with heap := w.heap.setIfInBounds b (.map (es.modify j fun e => { e with key := encK ka kl ks, val := v }) clock) }, by simp only [Instr.mapUpdate, Sem.run_bind, run_underlying hm, Result.andThen_ok, getMap hb, hck, h1, hj, Option.map_some, Option.getD_some, hst]; exact setMap _ hb, ⟨rfl, rfl, rfl, by simp⟩, by simp, fun k hk => ?_, hS, ⟨es.modify j fun e => { e with key := encK ka kl ks, val := v }, clock, ?_, ?_⟩, zero'⟩
    · simp only []
      rw [Array.getElem?_setIfInBounds_ne (Ne.symm hk)]
    · simp [hblt]
    · have hget : ∀ (i : Nat), (es.modify j fun e => { e with key := encK ka kl ks, val := v }).toList[i]? = if j = i then (es.toList[i]?).map (fun e => { e with key := encK ka kl ks, val := v }) else es.toList[i]? := by
        intro i
        rw [Array.getElem?_toList, Array.getElem?_modify, Array.getElem?_toList]
      have hkey : ∀ (i : Nat) e0, (es.modify j fun e => { e with key := encK ka kl ks, val := v }).toList[i]? = some e0 → ∃ e1, es.toList[i]? = some e1 ∧ e0.key = e1.key ∧ (i ≠ j → e0 = e1) ∧ (i = j → e0.val = v) := by
        intro i e0 hi
        rw [hget] at hi
        split at hi
        · rename_i hij
          subst hij
          rw [h2, Option.map_some, Option.some.injEq] at hi
          subst hi
          exact ⟨e, h2, h3.symm, fun h => absurd rfl h, fun _ => rfl⟩
        · rename_i hij
          exact ⟨e0, hi, rfl, fun _ => rfl, fun h => absurd h.symm hij⟩
      refine ⟨fun e0 he0 => ?_, fun i i' e0 e0' hi hi' heq => ?_, fun m hm hhm => ?_⟩
      · obtain ⟨i, hi⟩ := List.getElem?_of_mem he0
        obtain ⟨e1, g1, g2, g3, g4⟩ := hkey i e0 hi
        by_cases hij : i = j
        · subst hij
          rw [h2, Option.some.injEq] at g1
          subst g1
          exact ⟨ks, hk, by rw [g2, h3], by rw [hh, if_pos rfl], by rw [hr, if_pos rfl, g4 rfl]; exact hv⟩
        · have := g3 hij
          subst this
          obtain ⟨m, m1, m2, m3, m4⟩ := hes.keys e0 (List.mem_of_getElem? g1)
          have hmn : m ≠ ks := fun h => hij (hes.once i j e0 e g1 h2 (by rw [m2, h3, h]))
          exact ⟨m, m1, m2, by rw [hh, if_neg (hne m m1 hmn)]; exact m3, by rw [hr, if_neg (hne m m1 hmn)]; exact m4⟩
      · obtain ⟨e1, g1, g2, _⟩ := hkey i e0 hi
        obtain ⟨e1', g1', g2', _⟩ := hkey i' e0' hi'
        exact hes.once i i' e1 e1' g1 g1' (by rw [← g2, ← g2', heq])
      · have : ∃ e1 ∈ es.toList, e1.key = encK ka kl m := by
          by_cases hmk : m = ks
          · subst hmk
            exact ⟨e, List.mem_of_getElem? h2, h3⟩
          · rw [hh, if_neg (hne m hm hmk)] at hhm
            exact hes.all m hm hhm
        obtain ⟨e1, he1, hke⟩ := this
        obtain ⟨i, hi⟩ := List.getElem?_of_mem he1
        have := hget i
        by_cases hij : j = i
        · rw [if_pos hij, hi, Option.map_some] at this
          refine ⟨_, List.mem_of_getElem? this, ?_⟩
          subst hij
          rw [h2, Option.some.injEq] at hi
          subst hi
          rw [← hke, h3]
        · rw [if_neg hij, hi] at this
          exact ⟨e1, List.mem_of_getElem? this, hke⟩

end
end Go.RX

namespace Go.RX

section
variable {P : Program} {ρ : Env} {w : World} {look : Nat → Option SV} {vals : Operand → Value} {hp : List Ck} {S : Nat → Nat → Prop} {nb nv : Nat} {T : List TI}

theorem litAt_den {a : E} {i : Nat} {x : Int} (h : litAt a i = some x) : a.den ρ i = x := by
  unfold litAt at h
  split at h
  · rename_i n hn
    cases h
    have := eSel_den ρ a (.lit i) 0
    rw [hn] at this
    simp only [E.den, Int.toNat_natCast] at this
    exact this.symm
  · cases h
theorem litsOf_den {a : E} : ∀ {n : Nat} {l : List Int}, litsOf a n = some l → l = (List.range n).map (a.den ρ)
  | 0, l, h => by simp [litsOf] at h; subst h; rfl
  | n + 1, l, h => by
    unfold litsOf at h
    split at h
    · rename_i l' x h1 h2
      cases h
      rw [List.range_succ, List.map_append, ← litsOf_den h1]
      simp [litAt_den h2]
    · cases h
theorem eKc_den (n : Nat) (a : E) : ((eKc n a).den ρ 0) = (kcode ((List.range n).map (a.den ρ)) : Nat) := by
  unfold eKc
  split
  · rename_i l h
    rw [← litsOf_den h]
    rfl
  · rfl

theorem allInt_spec : ∀ {l : List CellK} {kl : List IntKind}, allInt l = some kl → l = kl.map some
  | [], kl, h => by simp [allInt] at h; subst h; rfl
  | some k :: r, kl, h => by
    simp only [allInt, Option.map_eq_some_iff] at h
    obtain ⟨x, hx, rfl⟩ := h
    rw [allInt_spec hx]; rfl
  | none :: r, kl, h => by simp [allInt] at h

theorem keyKinds_spec (hT : checkT P T = true) {t : Nat} {tk : TI} (ht : tlook T t = some tk) {kl : List IntKind} {ka : Bool} (h : keyKinds tk = some (kl, ka)) : KeyT P t kl ka := by
  obtain ⟨rfl, hti⟩ := tlook_spec hT ht
  have hkk := hti.kind
  unfold keyKinds at h
  split at h
  · rename_i k hk
    cases h
    rw [hk] at hkk
    have hu := kind_int hkk
    exact ⟨by simp [layOf, hu], fun _ => ⟨k, rfl, hu⟩, fun h => (by cases h)⟩
  · rename_i fs hk
    split at h
    · cases h
    · rename_i hne
      rw [Option.map_eq_some_iff] at h
      obtain ⟨l, hl, he⟩ := h
      cases he
      rw [hk] at hkk
      obtain ⟨fa, hu, _⟩ := kind_struct hkk
      rcases hti.lay with h | ⟨h, _⟩
      · exact absurd h hne
      · rw [allInt_spec hl] at h
        exact ⟨h, fun h => (by cases h), fun _ => ⟨fun cs => by simp [VOf, hu], by simp [hu]⟩⟩
  · rename_i n e hk
    split at h
    · cases h
    · rename_i hne
      rw [Option.map_eq_some_iff] at h
      obtain ⟨l, hl, he⟩ := h
      cases he
      rw [hk] at hkk
      have hu := kind_arr hkk
      rcases hti.lay with h | ⟨h, _⟩
      · exact absurd h hne
      · rw [allInt_spec hl] at h
        exact ⟨h, fun h => (by cases h), fun _ => ⟨fun cs => by simp [VOf, hu], by simp [hu]⟩⟩
  · cases h

theorem keyCells_val {ka : Bool} {k : SV} {kc : List SV} (h : keyCells ka k = some kc) {kl : List IntKind} {ks : List Int} (hk : ks.length = kl.length) (h1 : ka = false → ∃ k, kl = [k]) (hc : SV.cellsL ρ kc = mkI kl ks) : k.val ρ = encK ka kl ks := by
  unfold keyCells at h
  split at h
  · cases h
    simp only [SV.val, hc, encK_agg]
  · rename_i q e
    cases h
    obtain ⟨k0, rfl⟩ := h1 rfl
    match ks, hk, hc with
    | [x], _, hc =>
      have hc : [Value.int q (e.den ρ 0)] = [Value.int k0 x] := hc
      simp only [List.cons.injEq, and_true] at hc
      exact hc
  · cases h

theorem kind_map {d : Option TypeDesc} {k v : Nat} (h : tkOk d (.map k v) = true) : d = some (.map k v) := by
  unfold tkOk at h
  split at h <;> simp_all

theorem findMap_spec {hp : List Ck} {b j : Nat} {ck : Ck} (h : findMap hp b = some (j, ck)) : hp[j]? = some ck ∧ ck.isMap b = true := by
  unfold findMap at h
  split at h
  · rename_i i hi
    rw [Option.map_eq_some_iff] at h
    obtain ⟨c, hc, he⟩ := h
    cases he
    refine ⟨hc, ?_⟩
    rw [List.findIdx?_eq_some_iff_getElem] at hi
    obtain ⟨hlt, h1, _⟩ := hi
    rw [List.getElem?_eq_getElem hlt] at hc
    cases hc
    exact h1
  · cases h

theorem zeroColsM_spec {te : TI} {z : List Col} (h : zeroColsM T te = some z) : ∀ i : Nat, rowAt ρ z i = SV.cellsL ρ te.zero := by
  unfold zeroColsM at h
  split at h
  · split at h
    · rename_i hz
      cases h
      simp only [Bool.and_eq_true, List.isEmpty_iff] at hz
      intro i
      rw [hz.1]; rfl
    · cases h
  · exact fun i => (zeroCols_spec h).1 i

theorem litSame_cells : ∀ {a b : List SV}, litSame a b = true → SV.cellsL ρ a = SV.cellsL ρ b
  | [], [], _ => rfl
  | [], _ :: _, h => by simp [litSame] at h
  | v :: r, [], h => by cases v <;> simp [litSame] at h
  | v :: r, u :: s, h => by
    unfold litSame at h
    split at h
    · rename_i h1 _; cases h1
    · rename_i h1 h2
      cases h1
      cases h2
      simp only [Bool.and_eq_true, beq_iff_eq] at h
      obtain ⟨⟨rfl, rfl⟩, h⟩ := h
      simp only [SV.cellsL, litSame_cells h]
    · rename_i h1 h2
      cases h1
      cases h2
      simp only [Bool.and_eq_true, beq_iff_eq] at h
      obtain ⟨rfl, h⟩ := h
      simp only [SV.cellsL, litSame_cells h]
    · rename_i h1 h2
      cases h1
      cases h2
      simp only [Bool.and_eq_true, beq_iff_eq] at h
      obtain ⟨⟨⟨rfl, rfl⟩, rfl⟩, h⟩ := h
      simp only [SV.cellsL, litSame_cells h]
    · rename_i h1 h2; cases h1; cases h2; simp only [SV.cellsL, litSame_cells h]
    · rename_i h1 h2; cases h1; cases h2; simp only [SV.cellsL, litSame_cells h]
    · rename_i h1 h2; cases h1; cases h2; simp only [SV.cellsL, litSame_cells h]
    · rename_i h1 h2; cases h1; cases h2; simp only [SV.cellsL, litSame_cells h]
    · rename_i h1 h2; cases h1; cases h2; simp only [SV.cellsL, litSame_cells h]
    · rename_i h1 h2
      cases h1
      cases h2
      simp only [Bool.and_eq_true, beq_iff_eq] at h
      obtain ⟨rfl, h⟩ := h
      simp only [SV.cellsL, litSame_cells h]
    · cases h

theorem hasL_put {k : Nat} {v : List SV} : ∀ {es : List (Nat × List SV)} {q : Nat}, hasL (putL k v es) q = if q = k then true else hasL es q
  | [], q => by simp only [putL, hasL, eq_comm]
  | (i, u) :: r, q => by
    simp only [putL]
    split
    · rename_i h; subst h; simp only [hasL, eq_comm]; split <;> rfl
    · rename_i h
      simp only [hasL]
      split
      · rename_i h2; subst h2; rw [if_neg h]
      · exact hasL_put
theorem rowL_put {k : Nat} {v z : List SV} : ∀ {es : List (Nat × List SV)} {q : Nat}, rowL (putL k v es) z q = if q = k then v else rowL es z q
  | [], q => by simp only [putL, rowL, eq_comm]
  | (i, u) :: r, q => by
    simp only [putL]
    split
    · rename_i h; subst h; simp only [rowL, eq_comm]; split <;> rfl
    · rename_i h
      simp only [rowL]
      split
      · rename_i h2; subst h2; rw [if_neg h]
      · exact rowL_put
theorem makeMapSym_sound (_ : checkT P T = true) (hnb : ρ.bv.length = nb) {t : Nat} {res : Res} (h : makeMapSym T nb t = some res) :
    Did P ρ w hp S nb nv ((do pure (.value (← Instr.makeMap t none)) : Sem Next).run P w) res := by
  unfold makeMapSym at h
  split at h
  · rename_i kt vt sz by_ zr ly htt
    split at h
    · rename_i tk tv htk htv
      split at h
      · rename_i kl ka cols hk hz
        cases h
        refine ⟨w.alloc (.map #[] 0), _, if_pos rfl, ?_, ⟨rfl, rfl, rfl, by simp⟩, by simp, fun k hk => heap_alloc_old w _ hk, ⟨fun k => Iff.rfl, ⟨#[], 0, heap_alloc_new w _, ?_⟩, ?_⟩⟩
        · subst hnb
          simp [Instr.makeMap, SV.val, getD_addB]
        · refine ⟨by simp, by simp, fun ks _ hh => by simp [E.den] at hh⟩
        · intro ks _ _
          split at hz
          · cases hz
          · exact zeroColsM_spec (ρ := ρ) hz _
      · rename_i kl ka hk hz
        cases h
        refine ⟨w.alloc (.map #[] 0), _, if_pos rfl, ?_, ⟨rfl, rfl, rfl, by simp⟩, by simp, fun k hk => heap_alloc_old w _ hk, ⟨fun k => Iff.rfl, ⟨#[], 0, heap_alloc_new w _, ?_⟩, ?_⟩⟩
        · subst hnb
          simp [Instr.makeMap, SV.val, getD_addB]
        · refine ⟨by simp, by simp, fun ks _ hh => by simp [hasL] at hh⟩
        · intro ks _ _
          rfl
      · cases h
    · cases h
  · cases h

theorem ofCells_encV {agg : Bool} {cs : List SV} {v : SV} (h : ofCells agg cs = some v) : v.val ρ = encV agg (SV.cellsL ρ cs) := by
  obtain ⟨h1, h2⟩ := ofCells_val ρ h
  cases agg with
  | true => rw [h1 rfl]; rfl
  | false => have := h2 rfl; rw [this]; rfl

theorem zero_enc {ti : TI} (hti : TInfo P ti) {i : TypeInfo} {z : Value} (hi : P.info? ti.t = some i) (hz : i.zero = some z) (hc : SV.cellsL ρ ti.zero = z.cells.toList) : encV ti.k.agg (SV.cellsL ρ ti.zero) = z := by
  have hg := hti.zag i z hi hz
  rw [hc]
  cases z with
  | agg cs => simp only at hg; rw [hg]; simp [encV, Value.cells]
  | _ => simp only [Bool.not_eq_true'] at hg; rw [hg]; simp [encV, Value.cells]

theorem lookupSym_sound (hT : checkT P T = true) {t : Nat} {x k : SV} {comma : Bool} {res : Res} (h : lookupSym T hp t x k comma = some res) (hrd : Reads hp ρ w S res.rd) :
    (Instr.lookup t (x.val ρ) (k.val ρ) comma).run P w = .ok (res.val.val ρ) w ∧ res.eff = .none := by
  unfold lookupSym at h
  split at h
  · rename_i kt vt sz by_ zr ly htt
    obtain ⟨ht, hti⟩ := tlook_spec hT htt
    have hm : P.underlying t = some (.map kt vt) := by
      have := hti.kind
      rw [← ht]
      exact kind_map this
    split at h
    · rename_i tk tv htk htv
      obtain ⟨rfl, htv'⟩ := tlook_spec hT htv
      obtain ⟨iv, hiv, _, _, z, hz, hzc⟩ := htv'.info
      have hzr : (zeroValue tv.t).run P w = .ok z w := by simp [zeroValue, typeInfo, hiv, hz]
      have hze := zero_enc (ρ := ρ) htv' hiv hz (hzc ρ)
      split at h
      · rename_i kl ka hkk
        have hK := keyKinds_spec hT htk hkk
        split at h
        · rename_i kc hkc
          split at h
          · rename_i kl' a hrow
            split at h
            · cases h
            · rename_i hkl
              simp only [ne_eq, Decidable.not_not] at hkl
              subst hkl
              have hkv := keyCells_val (ρ := ρ) (ks := (List.range kl'.length).map (a.den ρ)) hkc (by simp) (fun hk => by obtain ⟨k, h1, _⟩ := hK.one hk; exact ⟨k, h1⟩) (rowOf_spec hrow)
              split at h
              · rw [Option.map_eq_some_iff] at h
                obtain ⟨v, hv, rfl⟩ := h
                refine ⟨?_, rfl⟩
                have hvv := ofCells_encV (ρ := ρ) hv
                rw [hze] at hvv
                rw [hkv]
                have := run_lookup_nil (P := P) (w := w) hm hK (ks := (List.range kl'.length).map (a.den ρ)) (comma := comma) (by simp) hzr
                show (Instr.lookup t (.map none) _ comma).run P w = _
                rw [this]
                cases comma <;> simp [SV.val, SV.vals, hvv, BE.den]
              · rename_i b
                split at h
                · rename_i j b' kl2 ka2 va2 zero2 has cols hf
                  split at h
                  · rename_i hcond
                    obtain ⟨rfl, rfl, rfl, hzs⟩ := hcond
                    split at h
                    · rename_i es hes
                      rw [Option.map_eq_some_iff] at h
                      obtain ⟨v, hv, rfl⟩ := h
                      refine ⟨?_, rfl⟩
                      obtain ⟨hj, hat⟩ := findMap_spec hf
                      simp only [Ck.isMap, beq_iff_eq] at hat
                      subst hat
                      have hS := hrd j (by simp) _ hj
                      have hcs := colElems_cells ρ hes
                      rw [eKc_den, Int.toNat_natCast] at hcs
                      have hvv := ofCells_encV (ρ := ρ) hv
                      rw [hcs] at hvv
                      rw [hkv]
                      have hz2 := litSame_cells (ρ := ρ) hzs
                      rw [← hz2] at hze
                      have := run_lookup_map (P := P) (w := w) hm hK (ks := (List.range kl2.length).map (a.den ρ)) (comma := comma) (by simp) hS hzr hze
                      show (Instr.lookup t (.map (some (ρ.bv.getD b 0))) _ comma).run P w = _
                      rw [this]
                      cases comma with
                      | false => simp only [Bool.false_eq_true, if_false, hvv]
                      | true =>
                        simp only [if_true, SV.val, SV.vals, hvv, bNz_den, eSel_den, eKc_den, Int.toNat_natCast]
                    · cases h
                  · cases h
                · rename_i j b' kl2 ka2 va2 zero2 es hf
                  split at h
                  · rename_i hcond
                    obtain ⟨rfl, rfl, rfl, hzs⟩ := hcond
                    split at h
                    · rename_i n hlit
                      rw [Option.map_eq_some_iff] at h
                      obtain ⟨v, hv, rfl⟩ := h
                      refine ⟨?_, rfl⟩
                      obtain ⟨hj, hat⟩ := findMap_spec hf
                      simp only [Ck.isMap, beq_iff_eq] at hat
                      subst hat
                      have hS := hrd j (by simp) _ hj
                      rw [Ck.den_mapl] at hS
                      have hkn : n.toNat = kcode ((List.range kl2.length).map (a.den ρ)) := by
                        have := eKc_den (ρ := ρ) kl2.length a
                        rw [hlit] at this
                        simp only [E.den] at this
                        rw [this, Int.toNat_natCast]
                      have hvv := ofCells_encV (ρ := ρ) hv
                      rw [hkn] at hvv
                      rw [hkv]
                      have hz2 := litSame_cells (ρ := ρ) hzs
                      rw [← hz2] at hze
                      have := run_lookup_map (P := P) (w := w) hm hK (ks := (List.range kl2.length).map (a.den ρ)) (comma := comma) (by simp) hS hzr hze
                      show (Instr.lookup t (.map (some (ρ.bv.getD b 0))) _ comma).run P w = _
                      rw [this]
                      cases comma with
                      | false => simp only [Bool.false_eq_true, if_false, hvv]
                      | true => simp only [if_true, SV.val, SV.vals, hvv, BE.den, hkn]
                    · cases h
                  · cases h
                · cases h
              · cases h
          · cases h
        · cases h
      · cases h
    · cases h
  · cases h

theorem isAgg_enc {v : SV} {vs : List SV} (h : toCells v = some vs) : v.val ρ = encV (isAggV v) (SV.cellsL ρ vs) := by
  cases v with
  | agg cs =>
    simp only [toCells] at h
    split at h
    · cases h; rfl
    · cases h
  | seg k n a =>
    simp only [toCells, SV.one, if_true, Option.some.injEq] at h
    subst h
    simp [SV.val, SV.cellsL, SV.cells, isAggV, encV]
  | opt c v => simp [toCells, SV.one] at h
  | undef => simp [toCells, SV.one] at h
  | tup vs => simp [toCells, SV.one] at h
  | _ =>
    simp only [toCells, SV.one, if_true, Option.some.injEq] at h
    subst h
    rfl

theorem updateSym_sound (hT : checkT P T = true) {t : Nat} {x k v : SV} {res : Res} (h : updateSym T hp t x k v = some res) (hrd : Reads hp ρ w S res.rd) :
    res.val = .undef ∧ ∃ j ck, res.eff = .set j ck ∧ ∃ w', (Instr.mapUpdate t (x.val ρ) (k.val ρ) (v.val ρ)).run P w = .ok () w' ∧ Wrote P w ρ hp S j ck w' := by
  unfold updateSym at h
  split at h
  · rename_i kt vt sz by_ zr ly htt
    obtain ⟨ht, hti⟩ := tlook_spec hT htt
    have hm : P.underlying t = some (.map kt vt) := by
      have := hti.kind
      rw [← ht]
      exact kind_map this
    split at h
    · rename_i tk tv htk htv
      split at h
      · rename_i kl ka hkk
        have hK := keyKinds_spec hT htk hkk
        split at h
        · rename_i kc vs hkc hvs
          split at h
          · rename_i kl' a b hrow
            split at h
            · rename_i j b' kl2 ka2 va2 zero has cols hf
              split at h
              · rename_i hcond
                obtain ⟨rfl, rfl, rfl, hva, hlen, hagg⟩ := hcond
                split at h
                · rename_i cols' hput
                  cases h
                  have hkv := keyCells_val (ρ := ρ) (ks := (List.range kl2.length).map (a.den ρ)) hkc (by simp) (fun hk => by obtain ⟨k, h1, _⟩ := hK.one hk; exact ⟨k, h1⟩) (rowOf_spec hrow)
                  obtain ⟨hj, hat⟩ := findMap_spec hf
                  simp only [Ck.isMap, beq_iff_eq] at hat
                  subst hat
                  have hS := hrd j (by simp) _ hj
                  obtain ⟨p1, p2, p3, p4⟩ := colPuts_spec ρ hput
                  rw [eKc_den, Int.toNat_natCast] at p3 p4
                  have hvv := isAgg_enc (ρ := ρ) hvs
                  rw [hagg, ← hva] at hvv
                  have hfull : rowAt ρ cols' (kcode ((List.range kl2.length).map (a.den ρ))) = SV.cellsL ρ vs := by
                    rw [p4, List.drop_eq_nil_of_le, List.append_nil]
                    rw [show (rowAt ρ cols _).length = colsW cols from row_length ρ cols _, cellsL_length]
                    exact Nat.le_of_eq hlen.symm
                  obtain ⟨w', r1, r2, r3, r4, r5⟩ := run_update_map (P := P) (w := w) hm hK (ks := (List.range kl2.length).map (a.den ρ)) (by simp) hS (v.val ρ) (SV.cellsL ρ vs) hvv
                    (has' := fun q => !((E.upd has (eKc kl2.length a) (.lit 1)).den ρ q == 0)) (row' := fun i => (cols'.map (Col.cells ρ)).flatMap fun c => c i)
                    (fun q => by
                      simp only [E.den, eKc_den, Int.toNat_natCast]
                      split <;> simp_all)
                    (fun q => by
                      split
                      · rename_i hq
                        rw [hq]
                        exact hfull
                      · rename_i hq
                        exact p3 q hq)
                  refine ⟨rfl, j, _, rfl, w', ?_, ⟨⟨_, hj, rfl⟩, rfl, r2, r3, fun k hk => r4 k (fun e => hk ((hS.1 k).2 e)), r5⟩⟩
                  rw [hkv]
                  exact r1
                · cases h
              · cases h
            · rename_i j b' kl2 ka2 va2 zero es hf
              split at h
              · rename_i hcond
                obtain ⟨rfl, rfl, rfl, hva, hagg⟩ := hcond
                split at h
                · rename_i n hlit
                  cases h
                  have hkv := keyCells_val (ρ := ρ) (ks := (List.range kl2.length).map (a.den ρ)) hkc (by simp) (fun hk => by obtain ⟨k, h1, _⟩ := hK.one hk; exact ⟨k, h1⟩) (rowOf_spec hrow)
                  obtain ⟨hj, hat⟩ := findMap_spec hf
                  simp only [Ck.isMap, beq_iff_eq] at hat
                  subst hat
                  have hS := hrd j (by simp) _ hj
                  rw [Ck.den_mapl] at hS
                  have hkn : n.toNat = kcode ((List.range kl2.length).map (a.den ρ)) := by
                    have := eKc_den (ρ := ρ) kl2.length a
                    rw [hlit] at this
                    simp only [E.den] at this
                    rw [this, Int.toNat_natCast]
                  have hvv := isAgg_enc (ρ := ρ) hvs
                  rw [hagg, ← hva] at hvv
                  obtain ⟨w', r1, r2, r3, r4, r5⟩ := run_update_map (P := P) (w := w) hm hK (ks := (List.range kl2.length).map (a.den ρ)) (by simp) hS (v.val ρ) (SV.cellsL ρ vs) hvv
                    (has' := fun q => hasL (putL n.toNat vs es) q) (row' := fun q => SV.cellsL ρ (rowL (putL n.toNat vs es) zero q))
                    (fun q => by rw [hasL_put, ← hkn])
                    (fun q => by
                      simp only [rowL_put, ← hkn]
                      split <;> rfl)
                  refine ⟨rfl, j, _, rfl, w', ?_, ⟨⟨_, hj, rfl⟩, rfl, r2, r3, fun k hk => r4 k (fun e => hk ((hS.1 k).2 e)), by rw [Ck.den_mapl]; exact r5⟩⟩
                  rw [hkv]
                  exact r1
                · cases h
              · cases h
            · cases h
          · cases h
        · cases h
      · cases h
    · cases h
  · cases h

end
end Go.RX
