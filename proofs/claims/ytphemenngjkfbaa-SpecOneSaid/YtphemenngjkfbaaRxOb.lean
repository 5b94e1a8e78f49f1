/- A reflective symbolic executor, part 15b: slice expressions. -/
import Derived.Test.YtphemenngjkfbaaRxOa
namespace Go.RX

/-- An operand that may be missing, and what number it is. -/
def OptInt : Option Value → Option Int → Prop
  | none, none => True
  | some v, some i => ∃ k, v = .int k i
  | _, _ => False

section
variable {P : Program} {ρ : Env} {w : World} {look : Nat → Option SV} {vals : Operand → Value} {hp : List Ck} {S : Nat → Nat → Prop} {nb nv : Nat} {T : List TI}

theorem intOpt_spec (hops : OpsOk ρ look vals) {o : Option Operand} {l : Option E} (h : intOpt look o = some l) : OptInt (o.map vals) (l.map fun e : E => e.den ρ 0) := by
  unfold intOpt at h
  split at h
  · cases h; exact True.intro
  · split at h
    · rename_i k e he
      cases h
      exact ⟨k, opEval_spec hops he⟩
    · cases h

theorem run_bounds (isS : Bool) (N C : Nat) {lo hi mx : Option Value} {l h m : Option Int} (hl : OptInt lo l) (hh : OptInt hi h) (hm : OptInt mx m) (hx : m.isSome = true → h.isSome = true)
    (h0 : 0 ≤ l.getD 0) (h1 : l.getD 0 ≤ h.getD (N : Int)) (h2 : ∀ x, m = some x → h.getD (N : Int) ≤ x ∧ x ≤ C) (h3 : m = none → h.getD (N : Int) ≤ C) :
    (Instr.sliceBounds isS N C lo hi mx).run P w = .ok ((l.getD 0).toNat, (h.getD (N : Int)).toNat, (m.map Int.toNat).getD C) w := by
  have hb := fun (k : IntKind) (i : Int) (y : Nat) (code : BoundsCode) (a : 0 ≤ i) (b : i ≤ y) => run_sliceBound (P := P) (w := w) k i y code a b
  cases m with
  | none =>
    have h3 := h3 rfl
    cases mx with
    | some v => exact hm.elim
    | none =>
      cases h with
      | none =>
        cases hi with
        | some v => exact hh.elim
        | none =>
          cases l with
          | none =>
            cases lo with
            | some v => exact hl.elim
            | none => simp [Instr.sliceBounds]
          | some l =>
            cases lo with
            | none => exact hl.elim
            | some v =>
              obtain ⟨k, rfl⟩ := hl
              simp only [Option.getD_some, Option.getD_none] at h0 h1
              simp [Instr.sliceBounds, hb k l N _ h0 h1]
      | some h =>
        cases hi with
        | none => exact hh.elim
        | some v =>
          obtain ⟨kh, rfl⟩ := hh
          simp only [Option.getD_some] at h1 h3
          have hhn : (h.toNat : Int) = h := Int.toNat_of_nonneg (by omega)
          cases l with
          | none =>
            cases lo with
            | some v => exact hl.elim
            | none =>
              simp only [Option.getD_none] at h1
              simp [Instr.sliceBounds, hb kh h C _ h1 h3]
          | some l =>
            cases lo with
            | none => exact hl.elim
            | some v =>
              obtain ⟨k, rfl⟩ := hl
              simp only [Option.getD_some] at h0 h1
              simp [Instr.sliceBounds, hb kh h C _ (by omega) h3, hb k l h.toNat _ h0 (by omega)]
  | some m =>
    obtain ⟨g2, g3⟩ := h2 m rfl
    cases mx with
    | none => exact hm.elim
    | some v =>
      obtain ⟨km, rfl⟩ := hm
      cases h with
      | none => simp at hx
      | some h =>
        cases hi with
        | none => exact hh.elim
        | some v =>
          obtain ⟨kh, rfl⟩ := hh
          simp only [Option.getD_some] at h1 g2
          cases l with
          | none =>
            cases lo with
            | some v => exact hl.elim
            | none =>
              simp only [Option.getD_none] at h1
              simp [Instr.sliceBounds, hb km m C _ (by omega) g3, hb kh h m.toNat _ (by omega) (by omega)]
          | some l =>
            cases lo with
            | none => exact hl.elim
            | some v =>
              obtain ⟨k, rfl⟩ := hl
              simp only [Option.getD_some] at h0 h1
              simp [Instr.sliceBounds, hb km m C _ (by omega) g3, hb kh h m.toNat _ (by omega) (by omega), hb k l h.toNat _ h0 (by omega)]

theorem run_slice_of (hT : checkT P T = true) {t : TypeId} {tt te : TI} (ht : tlook T t = some tt) {e : Nat} (hk : tt.k = .slice e) (hte : tlook T e = some te)
    (a : Option Addr) (N C : Nat) {lo hi mx : Option Value} {l h m : Option Int} (hl : OptInt lo l) (hh : OptInt hi h) (hm : OptInt mx m) (hx : m.isSome = true → h.isSome = true)
    (h0 : 0 ≤ l.getD 0) (h1 : l.getD 0 ≤ h.getD (N : Int)) (h2 : ∀ x, m = some x → h.getD (N : Int) ≤ x ∧ x ≤ C) (h3 : m = none → h.getD (N : Int) ≤ C) :
    (Instr.sliceAt t (.slice a N C) lo hi mx).run P w = .ok (subSlice te.size (.slice a N C) (l.getD 0).toNat (h.getD (N : Int)).toNat (m.map Int.toNat)) w := by
  obtain ⟨rfl, hts⟩ := tlook_spec hT ht
  obtain ⟨rfl, hti⟩ := tlook_spec hT hte
  have hkk := hts.kind
  rw [hk] at hkk
  have hu := kind_slice hkk
  have := run_bounds (P := P) (w := w) true N C hl hh hm hx h0 h1 h2 h3
  simp [Instr.sliceAt, Instr.slice, run_underlying hu, this, hti.sizeOf w, subSlice]

theorem run_slice_arr (hT : checkT P T = true) {t : TypeId} {tt te : TI} (ht : tlook T t = some tt) {n e : Nat} (hk : tt.k = .arr n e) (hte : tlook T e = some te)
    (a : Addr) {lo hi mx : Option Value} {l h m : Option Int} (hl : OptInt lo l) (hh : OptInt hi h) (hm : OptInt mx m) (hx : m.isSome = true → h.isSome = true)
    (h0 : 0 ≤ l.getD 0) (h1 : l.getD 0 ≤ h.getD (n : Int)) (h2 : ∀ x, m = some x → h.getD (n : Int) ≤ x ∧ x ≤ n) (h3 : m = none → h.getD (n : Int) ≤ n) :
    (Instr.sliceAt t (.pointer (some a)) lo hi mx).run P w = .ok (subSlice te.size (.slice (some a) n n) (l.getD 0).toNat (h.getD (n : Int)).toNat (m.map Int.toNat)) w := by
  obtain ⟨rfl, hts⟩ := tlook_spec hT ht
  obtain ⟨rfl, hti⟩ := tlook_spec hT hte
  have hkk := hts.kind
  rw [hk] at hkk
  have hu := kind_arr hkk
  have := run_bounds (P := P) (w := w) false n n hl hh hm hx h0 h1 h2 h3
  simp only [Instr.sliceAt, Sem.run_bind, run_underlying hu, Result.andThen_ok, Instr.sureAddr, Sem.run_pure, this, hti.sizeOf w, subSlice]
  congr 2
  split <;> simp

/-- A part of a row, cut out. -/
theorem sub_row (b i0 n0 m0 s : Nat) (l h : Int) (m : Int) (h0 : 0 ≤ l) (h1 : l ≤ h) (h2 : h ≤ m) (h3 : l = 0 ∨ l < m) :
    subSlice s (.slice (some ⟨b, i0 * s, none⟩) n0 m0) l.toNat h.toNat (some m.toNat) = .slice (some ⟨b, (i0 + l.toNat) * s, none⟩) (h - l).toNat (m - l).toNat := by
  simp only [subSlice, Option.getD_some]
  congr 1
  · rcases h3 with rfl | h3
    · simp [addr_add_zero]
    · rw [if_neg (by omega), Option.map_some, addr_add_lit, Nat.add_mul]
  · omega
  · omega

theorem den_getD (o : Option E) (d : E) : (o.getD d).den ρ 0 = (o.map fun e : E => e.den ρ 0).getD (d.den ρ 0) := by cases o <;> rfl

theorem sliceVal_val {x v : SV} {c : Cut} {s : Nat} (h : sliceVal x c s = some v) :
    v.val ρ = subSlice s (x.val ρ) (c.lo.den ρ 0).toNat (c.hi.den ρ 0).toNat (c.mx.map fun m => (m.den ρ 0).toNat) := by
  unfold sliceVal at h
  split at h
  · cases h; rfl
  · split at h
    · rename_i hs
      subst hs
      cases h
      simp only [SV.val, subSlices_append]
      rfl
    · cases h
  · cases h

theorem low_ok {l mm : E} (h : ∀ b ∈ (if l = .lit 0 then [] else [bLt l mm].filter fun b => b != .lit true), b.prop ρ) : l.den ρ 0 = 0 ∨ l.den ρ 0 < mm.den ρ 0 := by
  split at h
  · rename_i hl
    subst hl
    exact .inl rfl
  · exact .inr (bLt_filter_prop h)

theorem subSlice_top (s : Nat) (a : Option Addr) (N C l h : Nat) : subSlice s (.slice a N C) l h none = subSlice s (.slice a N C) l h (some C) := rfl

theorem sliceSym_sound (hT : checkT P T = true) {t : TypeId} {tt : TI} (htt : tlook T t = some tt) {x : SV} {l h m : Option E} {res : Res} (hs : sliceSym T hp tt.k x l h m = some res)
    {lo hi mx : Option Value} (hl : OptInt lo (l.map fun e : E => e.den ρ 0)) (hh : OptInt hi (h.map fun e : E => e.den ρ 0)) (hm : OptInt mx (m.map fun e : E => e.den ρ 0))
    (hrd : Reads hp ρ w S res.rd) (hvc : ∀ b ∈ res.vcs, b.prop ρ) :
    (Instr.sliceAt t (x.val ρ) lo hi mx).run P w = .ok (res.val.val ρ) w ∧ res.eff = .none := by
  unfold sliceSym at hs
  split at hs
  · cases hs
  · rename_i hmx
    have hx : (m.map fun e : E => e.den ρ 0).isSome = true → (h.map fun e : E => e.den ρ 0).isSome = true := by
      cases m <;> cases h <;> simp_all
    split at hs
    · rename_i e b i s n cap hk
      split at hs
      · rename_i te hte
        split at hs
        · rename_i hsz
          subst hsz
          simp only [Option.some.injEq] at hs
          subst hs
          refine ⟨?_, rfl⟩
          simp only at hvc
          obtain ⟨hvc, q6⟩ := mem_app hvc
          obtain ⟨hvc, q5⟩ := mem_app hvc
          obtain ⟨hvc, q4⟩ := mem_app hvc
          obtain ⟨hvc, q3⟩ := mem_app hvc
          obtain ⟨hvc, q2⟩ := mem_app hvc
          obtain ⟨q0, q1⟩ := mem_app hvc
          have q0 := bLe'_prop q0
          have q1 := bLe'_prop q1
          have q2 := bLe'_prop q2
          have q3 := bLe'_prop q3
          have q4 := bLe'_prop q4
          have q5 := bLe'_prop q5
          have q6 := low_ok q6
          simp only [den_getD, E.den] at q0 q1 q2 q3 q4 q5 q6
          have e1 : (SV.sl b i te.size n cap).val ρ = .slice (some ⟨ρ.bv.getD b 0, (i.den ρ 0).toNat * te.size, none⟩) (n.den ρ 0).toNat (cap.den ρ 0).toNat := rfl
          have hNn : ((n.den ρ 0).toNat : Int) = n.den ρ 0 := Int.toNat_of_nonneg q5
          have hrun := run_slice_of (P := P) (w := w) hT htt hk hte (some ⟨ρ.bv.getD b 0, (i.den ρ 0).toNat * te.size, none⟩) (n.den ρ 0).toNat (cap.den ρ 0).toNat hl hh hm hx q1 (by rw [hNn]; exact q2)
            (fun x hx => by rw [hx] at q3 q4; rw [hNn]; simp only [Option.getD_some] at q3 q4; exact ⟨q3, by omega⟩) (fun hx => by rw [hx] at q3; rw [hNn]; simp only [Option.getD_none] at q3; omega)
          rw [e1, hrun, hNn]
          congr 1
          have hmm : subSlice te.size (.slice (some ⟨ρ.bv.getD b 0, (i.den ρ 0).toNat * te.size, none⟩) (n.den ρ 0).toNat (cap.den ρ 0).toNat) ((l.map fun e : E => e.den ρ 0).getD 0).toNat
              ((h.map fun e : E => e.den ρ 0).getD (n.den ρ 0)).toNat ((m.map fun e : E => e.den ρ 0).map Int.toNat) =
              subSlice te.size (.slice (some ⟨ρ.bv.getD b 0, (i.den ρ 0).toNat * te.size, none⟩) (n.den ρ 0).toNat (cap.den ρ 0).toNat) ((l.map fun e : E => e.den ρ 0).getD 0).toNat
              ((h.map fun e : E => e.den ρ 0).getD (n.den ρ 0)).toNat (some ((m.map fun e : E => e.den ρ 0).getD (cap.den ρ 0)).toNat) := by
            cases m <;> rfl
          rw [hmm, sub_row _ _ _ _ _ _ _ _ q1 q2 q3 q6]
          simp only [SV.val, eAdd_den, eSub_den, den_getD, E.den]
          congr 4
          omega
        · cases hs
      · cases hs
    · rename_i e hk
      split at hs
      · rename_i te hte
        split at hs
        · rename_i hz
          cases hs
          obtain ⟨z1, z2, z3⟩ := hz
          refine ⟨?_, rfl⟩
          have g1 : (l.map fun e : E => e.den ρ 0).getD 0 = 0 := by cases l with | none => rfl | some l => simp only [Option.getD_some] at z1; subst z1; rfl
          have g2 : (h.map fun e : E => e.den ρ 0).getD 0 = 0 := by cases h with | none => rfl | some l => simp only [Option.getD_some] at z2; subst z2; rfl
          have g3 : (m.map fun e : E => e.den ρ 0).getD 0 = 0 := by cases m with | none => rfl | some l => simp only [Option.getD_some] at z3; subst z3; rfl
          have hrun := run_slice_of (P := P) (w := w) hT htt hk hte none 0 0 hl hh hm hx (by rw [g1]; exact Int.le_refl _) (by rw [g1]; simp only [Int.natCast_zero, g2]; exact Int.le_refl _)
            (fun x hx => by rw [hx] at g3; simp only [Option.getD_some] at g3; subst g3; simp only [Int.natCast_zero, g2]; exact ⟨Int.le_refl _, Int.le_refl _⟩) (fun _ => by simp only [Int.natCast_zero, g2]; exact Int.le_refl _)
          rw [show (SV.nils).val ρ = .slice none 0 0 from rfl, hrun]
          congr 1
          simp only [g1, Int.natCast_zero, g2]
          cases m with
          | none => simp [subSlice, SV.val]
          | some m => simp only [Option.map_some, Option.getD_some] at g3; simp [subSlice, g3, SV.val]
        · cases hs
      · cases hs
    · rename_i e hk _ _
      split at hs
      · rename_i te r hte hr
        split at hs
        · rename_i hsz
          dsimp only at hs
          split at hs
          · rename_i v hv
            cases hs
            refine ⟨?_, rfl⟩
            simp only at hvc
            obtain ⟨hv1, hv2⟩ := mem_app hvc
            obtain ⟨hj, hsub⟩ := rootSV_spec hr hrd hv1
            obtain ⟨h1, h2, h3, h4, a, N, C, hxv, hN, hC, hCm⟩ := hsub.step _ hv2
            rw [sliceVal_val hv, hxv]
            simp only [den_getD, E.den] at h2 h3 h4 hC ⊢
            have hxN : (h.map fun e : E => e.den ρ 0).getD (r.p.len.den ρ 0) = (h.map fun e : E => e.den ρ 0).getD (N : Int) ∨ (h = none ∧ r.p.len.den ρ 0 ≤ N) := by
              cases h with
              | none => right; exact ⟨rfl, by omega⟩
              | some h => left; rfl
            have hxN : (h.map fun e : E => e.den ρ 0).getD (N : Int) = (h.map fun e : E => e.den ρ 0).getD (r.p.len.den ρ 0) := by
              rcases hxN with h | ⟨rfl, hle⟩
              · exact h.symm
              · simp only [Option.map_none, Option.getD_none] at h3 ⊢
                omega
            have hrun := run_slice_of (P := P) (w := w) hT htt hk hte a N C hl hh hm hx h2 (by rw [hxN]; exact h3)
              (fun x hx => by
                rw [hxN]
                rw [Option.map_eq_some_iff] at hx
                obtain ⟨me, hme, rfl⟩ := hx
                have := h4 me hme
                have := hCm me hme
                exact ⟨h4 me hme, by omega⟩)
              (fun hx => by
                rw [hxN]
                have := hC (by simpa using hx)
                omega)
            rw [hrun, hxN, hsz]
            congr 2
            cases m <;> rfl
          · cases hs
        · cases hs
      · cases hs
    · rename_i n e b c hk
      split at hs
      · rename_i te hte
        split at hs
        · rename_i hsz
          obtain ⟨hsz, hmod⟩ := hsz
          simp only [Option.some.injEq] at hs
          subst hs
          refine ⟨?_, rfl⟩
          simp only at hvc
          obtain ⟨hvc, q6⟩ := mem_app hvc
          obtain ⟨hvc, q4⟩ := mem_app hvc
          obtain ⟨hvc, q3⟩ := mem_app hvc
          obtain ⟨q1, q2⟩ := mem_app hvc
          have q1 := bLe'_prop q1
          have q2 := bLe'_prop q2
          have q3 := bLe'_prop q3
          have q4 := bLe'_prop q4
          have q6 := low_ok q6
          simp only [den_getD, E.den] at q1 q2 q3 q4 q6
          have hc : c = c / te.size * te.size := by
            have := Nat.div_add_mod c te.size
            rw [hmod, Nat.add_zero, Nat.mul_comm] at this
            exact this.symm
          have e1 : (SV.ptr b c).val ρ = .pointer (some ⟨ρ.bv.getD b 0, c / te.size * te.size, none⟩) := by
            rw [← hc]; rfl
          have hrun := run_slice_arr (P := P) (w := w) hT htt hk hte ⟨ρ.bv.getD b 0, c / te.size * te.size, none⟩ hl hh hm hx q1 q2
            (fun x hx => by rw [hx] at q3 q4; simp only [Option.getD_some] at q3 q4; exact ⟨q3, q4⟩) (fun hx => by rw [hx] at q3; simp only [Option.getD_none] at q3; exact q3)
          rw [e1, hrun]
          congr 1
          have hmm : subSlice te.size (.slice (some ⟨ρ.bv.getD b 0, c / te.size * te.size, none⟩) n n) ((l.map fun e : E => e.den ρ 0).getD 0).toNat
              ((h.map fun e : E => e.den ρ 0).getD (n : Int)).toNat ((m.map fun e : E => e.den ρ 0).map Int.toNat) =
              subSlice te.size (.slice (some ⟨ρ.bv.getD b 0, c / te.size * te.size, none⟩) n n) ((l.map fun e : E => e.den ρ 0).getD 0).toNat
              ((h.map fun e : E => e.den ρ 0).getD (n : Int)).toNat (some ((m.map fun e : E => e.den ρ 0).getD (n : Int)).toNat) := by
            cases m <;> simp [subSlice]
          rw [hmm, sub_row _ _ _ _ _ _ _ _ q1 q2 q3 q6]
          simp only [SV.val, eAdd_den, eSub_den, den_getD, E.den]
          congr 4
          generalize c / te.size = q
          omega
        · cases hs
      · cases hs
    · cases hs

end
end Go.RX
