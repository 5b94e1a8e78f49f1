/- A reflective symbolic executor, part 33: formulas that hold at sight, checked branch by branch; an answer that is told. -/
import Derived.Test.YtgaabcinjbjbgaaGreatDoorRxZi
namespace Go.RX

/-- One branch of a formula alone: at each join or fork of orders the path says which. -/
def F.chk (p : List Bool) (ups : List Nat) (cnt : Cnt) : F → Bool
  | .vc b r => b.sure && r.chk p ups cnt
  | .allB r => r.chk p ups { cnt with b := cnt.b + 1 }
  | .allV r => r.chk p ups { cnt with v := cnt.v + 1 }
  | .nilV r => r.chk p ups { cnt with v := cnt.v + 1 }
  | .allRec true r => r.chk p ups { cnt with b := cnt.b + 2, r := cnt.r + 1 }
  | .allRec false r => r.chk p ups { cnt with b := cnt.b + 1, r := cnt.r + 1 }
  | .both a b => match p with
    | [] => a.triv2 ups cnt && b.triv2 ups cnt
    | false :: p => a.chk p ups cnt
    | true :: p => b.chk p ups cnt
  | .join up inc body r => match p with
    | [] => body.triv2 (up :: ups) cnt && r.triv2 ups (cnt.add inc)
    | false :: p => body.chk p (up :: ups) cnt
    | true :: p => r.chk p ups (cnt.add inc)
  | f => f.triv2 ups cnt
theorem F.chk_nil (f : F) : ∀ (ups : List Nat) (cnt : Cnt), f.chk [] ups cnt = f.triv2 ups cnt := by
  induction f with
  | vc b r ih => intro u c; simp only [F.chk, F.triv2, ih]
  | allB r ih => intro u c; simp only [F.chk, F.triv2, ih]
  | allV r ih => intro u c; simp only [F.chk, F.triv2, ih]
  | nilV r ih => intro u c; simp only [F.chk, F.triv2, ih]
  | allRec b r ih => intro u c; cases b <;> simp only [F.chk, F.triv2, ih]
  | both a b iha ihb => intro u c; simp only [F.chk, F.triv2]
  | join up inc body r ihb ihr => intro u c; simp only [F.chk, F.triv2]
  | _ => intro u c; simp only [F.chk]
theorem F.chk_split (f : F) : ∀ (p : List Bool) (ups : List Nat) (cnt : Cnt), f.chk (p ++ [false]) ups cnt = true → f.chk (p ++ [true]) ups cnt = true → f.chk p ups cnt = true := by
  induction f with
  | vc b r ih =>
    intro p u c h1 h2
    simp only [F.chk, Bool.and_eq_true] at *
    exact ⟨h1.1, ih p u c h1.2 h2.2⟩
  | allB r ih => intro p u c h1 h2; simp only [F.chk] at *; exact ih p u _ h1 h2
  | allV r ih => intro p u c h1 h2; simp only [F.chk] at *; exact ih p u _ h1 h2
  | nilV r ih => intro p u c h1 h2; simp only [F.chk] at *; exact ih p u _ h1 h2
  | allRec b r ih => intro p u c h1 h2; cases b <;> (simp only [F.chk] at *; exact ih p u _ h1 h2)
  | both a b iha ihb =>
    intro p u c h1 h2
    cases p with
    | nil =>
      simp only [F.chk, List.nil_append, F.chk_nil] at *
      simp only [h1, h2, Bool.and_self]
    | cons x p =>
      cases x with
      | false => simp only [F.chk, List.cons_append] at *; exact iha p u c h1 h2
      | true => simp only [F.chk, List.cons_append] at *; exact ihb p u c h1 h2
  | join up inc body r ihb ihr =>
    intro p u c h1 h2
    cases p with
    | nil =>
      simp only [F.chk, List.nil_append, F.chk_nil] at *
      simp only [h1, h2, Bool.and_self]
    | cons x p =>
      cases x with
      | false => simp only [F.chk, List.cons_append] at *; exact ihb p _ c h1 h2
      | true => simp only [F.chk, List.cons_append] at *; exact ihr p u _ h1 h2
  | _ => intro p u c h1 h2; simp only [F.chk] at *; exact h1

/-- A closed run, branch by branch. -/
def runChk (C : Ctx) (f : Nat) (fd : Func) (p : List Bool) : Bool := (runF C f [] [] {} fd).chk p [] {}
theorem runChk_split {C : Ctx} {f : Nat} {fd : Func} {p : List Bool} (h1 : runChk C f fd (p ++ [false]) = true) (h2 : runChk C f fd (p ++ [true]) = true) : runChk C f fd p = true := F.chk_split _ p _ _ h1 h2
theorem law1 {P : Program} {C : Ctx} (hT : checkT P C.T = true) (hFT : FTOk P C.FT) (hm : P.follows .mixedOrders = true) {f : Nat} {fd : Func} (hf : P.funcs[f]? = some fd)
    (h : runChk C f fd [] = true) (hPu : PureOk P C) : Meets P f [] [] (fun v hs => v = .bool true ∧ hs = []) := by
  unfold runChk at h
  rw [F.chk_nil] at h
  exact law0' hT hFT hm hf h hPu

/-- The same values, at sight. -/
def SV.same : SV → SV → Bool
  | .int k (.lit n), .int k' (.lit m) => k == k' && n == m
  | .bool (.lit a), .bool (.lit b) => a == b
  | .str l, .str l' => l == l'
  | .agg a, .agg b => litSame (expandR a) (expandR b)
  | .tup [a, b], .tup [c, d] => SV.same a c && SV.same b d
  | _, _ => false
theorem SV.same_val (ρ : Env) : ∀ {u v : SV}, SV.same u v = true → u.val ρ = v.val ρ := by
  intro u v
  induction u, v using SV.same.induct with
  | case1 k n k' m => intro h; simp only [SV.same, Bool.and_eq_true, beq_iff_eq] at h; rw [h.1, h.2]
  | case2 a b => intro h; simp only [SV.same, beq_iff_eq] at h; rw [h]
  | case3 l l' => intro h; simp only [SV.same, beq_iff_eq] at h; rw [h]
  | case4 a b =>
    intro h
    simp only [SV.same] at h
    have := litSame_cells (ρ := ρ) h
    rw [expandR_cells, expandR_cells] at this
    simp only [SV.val, this]
  | case5 a b c d ih1 ih2 =>
    intro h
    simp only [SV.same, Bool.and_eq_true] at h
    simp only [SV.val, SV.vals, ih1 h.1, ih2 h.2]
  | case6 u v h1 h2 h3 h4 h5 =>
    intro h
    unfold SV.same at h
    split at h
    · exact (h1 _ _ _ _ rfl rfl).elim
    · exact (h2 _ _ rfl rfl).elim
    · exact (h3 _ _ rfl rfl).elim
    · exact (h4 _ _ rfl rfl).elim
    · exact (h5 _ _ _ _ rfl rfl).elim
    · cases h
/-- A formula that answers this, at sight. -/
def F.ans (v : SV) : F → Bool
  | .vc b r => b.sure && r.ans v
  | .fork c t e => match c.surely with
    | some true => t.ans v
    | some false => e.ans v
    | none => t.ans v && e.ans v
  | .ret u _ => u.same v
  | .allB r => r.ans v
  | .allV r => r.ans v
  | .nilV r => r.ans v
  | .allRec _ r => r.ans v
  | .both a b => a.ans v && b.ans v
  | _ => false
theorem F.ans_sound {P : Program} {f : F} {v : SV} (x : Value) (hx : ∀ ρ, v.val ρ = x) (ρ : Env) (L : Nat → LC) (h : f.ans v = true) : VC P (fun u _ => u = x) f ρ L := by
  induction f generalizing ρ L with
  | vc b r ih =>
    simp only [F.ans, Bool.and_eq_true] at h
    exact ⟨(BE.den_iff ρ b).1 (sure_prop h.1 ρ), fun _ => ih ρ L h.2⟩
  | fork c t e iht ihe =>
    simp only [F.ans] at h
    split at h
    · rename_i hc
      unfold BE.surely at hc
      split at hc
      · rename_i hs
        simp only [Option.some.injEq] at hc
        exact ⟨fun _ => iht ρ L h, fun hn => absurd ((BE.den_iff ρ c).1 (by rw [closed_den hs]; exact hc)) hn⟩
      · cases hc
    · rename_i hc
      unfold BE.surely at hc
      split at hc
      · rename_i hs
        simp only [Option.some.injEq] at hc
        refine ⟨fun hn => ?_, fun _ => ihe ρ L h⟩
        have := (BE.den_iff ρ c).2 hn
        rw [closed_den hs, hc] at this
        cases this
      · cases hc
    · simp only [Bool.and_eq_true] at h
      exact ⟨fun _ => iht ρ L h.1, fun _ => ihe ρ L h.2⟩
  | ret u hp => simp only [F.ans] at h; simp only [VC, SV.same_val ρ h, hx]
  | allB r ih => exact fun _ => ih _ L h
  | allV r ih => exact fun _ => ih _ L h
  | nilV r ih => exact ih _ L h
  | allRec b r ih => cases b with
    | true => exact fun _ _ _ => ih _ L h
    | false => exact fun _ _ => ih _ L h
  | fail => simp [F.ans] at h
  | call => simp [F.ans] at h
  | loop => simp [F.ans] at h
  | back => simp [F.ans] at h
  | join => simp [F.ans] at h
  | meet => simp [F.ans] at h
  | ghost => simp [F.ans] at h
  | both a b iha ihb =>
    simp only [F.ans, Bool.and_eq_true] at h
    exact ⟨iha ρ L h.1, ihb ρ L h.2⟩
theorem Meets.ans {P : Program} {C : Ctx} (hT : checkT P C.T = true) (hFT : FTOk P C.FT) (hm : P.follows .mixedOrders = true) {f : Nat} {fd : Func} (hf : P.funcs[f]? = some fd) {args : List SV} {v : SV} (x : Value) (hx : ∀ ρ, v.val ρ = x)
    (h : (runF C f args [] {} fd).ans v = true) (hPu : PureOk P C) : Meets P f (SV.vals env0 args) [] (fun u hs => u = x ∧ hs = []) := by
  have := Meets.of_run (Post := fun u _ => u = x) (ρ := env0) (args := args) (hp := []) (cnt := {}) hT hFT hm hf (by constructor <;> rfl) (F.ans_sound x hx env0 _ h) hPu
  exact this.post fun v hs h => ⟨[], Ent.sub (List.nil_sublist _), h, rfl⟩
end Go.RX
