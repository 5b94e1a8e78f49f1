/- A reflective symbolic executor, part 27: formulas that hold at sight; what a law's statement asks. -/
import Derived.Test.YtphemenngjkfbaaRxZ
import Derived.Below
namespace Go.RX

theorem FTOk.nil {P : Program} : FTOk P [] := fun x hx => (by cases hx)
theorem FTOk.cons {P : Program} {FT : List (Nat × Func)} {f : Nat} {fd : Func} (h : P.funcs[f]? = some fd) (hn : (fd.name == "runtime.NumGoroutine") = false) (hr : FTOk P FT) : FTOk P ((f, fd) :: FT) := by
  intro x hx
  rcases List.mem_cons.1 hx with rfl | hx
  · exact ⟨h, hn⟩
  · exact hr x hx

def BE.surely (b : BE) : Option Bool := if b.sc {} then some (b.den env0) else none
/-- A formula that holds at sight: the call returns true. -/
def F.triv : F → Bool
  | .vc b r => b.sure && r.triv
  | .fork c t e => match c.surely with
    | some true => t.triv
    | some false => e.triv
    | none => t.triv && e.triv
  | .ret (.bool b) _ => b.sure
  | .allB r => r.triv
  | .allV r => r.triv
  | .nilV r => r.triv
  | .allRec _ r => r.triv
  | .both a b => a.triv && b.triv
  | _ => false

theorem F.triv_sound {P : Program} {f : F} (ρ : Env) (L : Nat → LC) (h : f.triv = true) : VC P (fun v _ => v = .bool true) f ρ L := by
  induction f generalizing ρ L with
  | vc b r ih =>
    simp only [F.triv, Bool.and_eq_true] at h
    exact ⟨(BE.den_iff ρ b).1 (sure_prop h.1 ρ), fun _ => ih ρ L h.2⟩
  | fork c t e iht ihe =>
    simp only [F.triv] at h
    split at h
    · rename_i hc
      unfold BE.surely at hc
      split at hc
      · rename_i hs
        simp only [Option.some.injEq] at hc
        exact ⟨fun _ => iht ρ L h, fun hn => absurd ((BE.den_iff ρ c).1 (by rw [closed_den hs]; exact hc)) hn⟩
      · cases hc
    · rename_i hc
      unfold BE.surely at hc
      split at hc
      · rename_i hs
        simp only [Option.some.injEq] at hc
        refine ⟨fun hn => ?_, fun _ => ihe ρ L h⟩
        have := (BE.den_iff ρ c).2 hn
        rw [closed_den hs, hc] at this
        cases this
      · cases hc
    · simp only [Bool.and_eq_true] at h
      exact ⟨fun _ => iht ρ L h.1, fun _ => ihe ρ L h.2⟩
  | ret v hp =>
    cases v with
    | bool b => simp only [F.triv] at h; simp only [VC, SV.val, sure_prop h ρ]
    | _ => simp [F.triv] at h
  | allB r ih => exact fun _ => ih _ L h
  | allV r ih => exact fun _ => ih _ L h
  | nilV r ih => exact ih _ L h
  | allRec b r ih => cases b with
    | true => exact fun _ _ _ => ih _ L h
    | false => exact fun _ _ => ih _ L h
  | fail => simp [F.triv] at h
  | call => simp [F.triv] at h
  | loop => simp [F.triv] at h
  | back => simp [F.triv] at h
  | join => simp [F.triv] at h
  | meet => simp [F.triv] at h
  | ghost => simp [F.triv] at h
  | both a b iha ihb =>
    simp only [F.triv, Bool.and_eq_true] at h
    exact ⟨iha ρ L h.1, ihb ρ L h.2⟩

/-- What a law's statement asks of a call: true, and nothing that was there is written. -/
theorem Meets.law {P : Program} {f : Nat} {args : List Value} {pre : List HP} (h : Meets P f args pre fun v _ => v = .bool true) (w : World) (hown : Owns (pre ++ [keptHP w.heap.size w]) w) :
    Calls P f args.toArray w fun e w' => e = .returned (.bool true) ∧ RowKit.Below w.heap.size w w' := by
  refine (h w _ hown).mono ?_
  rintro e w' ⟨v, hs, rfl, rfl, ⟨S, hS⟩, hsm⟩
  refine ⟨rfl, ?_⟩
  have := (hS.at_ hs.length (keptHP w.heap.size w) (by simp)).1
  exact ⟨hsm.os, hsm.tape, hsm.output, hsm.size, fun k hk => this.2 k hk⟩
theorem owns_kept (w : World) : Owns [keptHP w.heap.size w] w := by
  refine ⟨fun _ k => k < w.heap.size, ⟨?_, ?_⟩⟩
  · intro i h hi
    cases i with
    | zero => simp at hi; subst hi; exact ⟨⟨fun _ => Iff.rfl, fun _ _ => rfl⟩, fun _ h => h⟩
    | succ i => simp at hi
  · intro i j hi hj hne h1 h2
    cases i <;> cases j <;> simp_all

/-- A law without arguments. -/
theorem law0 {P : Program} {C : Ctx} (hT : checkT P C.T = true) (hFT : FTOk P C.FT) (hm : P.follows .mixedOrders = true) {f : Nat} {fd : Func} (hf : P.funcs[f]? = some fd)
    (h : (runF C f [] [] {} fd).triv = true) (w : World) : Calls P f #[] w fun e w' => e = .returned (.bool true) ∧ RowKit.Below w.heap.size w w' := by
  have := Meets.of_run (Post := fun v _ => v = .bool true) (ρ := env0) hT hFT hm hf (by constructor <;> rfl) (F.triv_sound _ _ h)
  exact this.law w (owns_kept w)

end Go.RX
