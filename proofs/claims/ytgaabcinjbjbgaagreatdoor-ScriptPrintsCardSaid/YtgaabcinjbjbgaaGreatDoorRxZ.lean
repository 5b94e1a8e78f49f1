/- A reflective symbolic executor, part 26: the theorem. -/
import Derived.Test.YtgaabcinjbjbgaaGreatDoorRyY
namespace Go.RX

section
variable {P : Program} {C : Ctx} {Post : Value → List HP → Prop} {Fs : List HP} {w0 : World}

theorem run_sound (hT : checkT P C.T = true) (hFT : FTOk P C.FT) (hPu : PureOk P C) (hm : P.follows .mixedOrders = true) (n : Nat) : SoundC P C Post Fs w0 n ∧ SoundO P C Post Fs w0 n ∧ SoundD P C Post Fs w0 n := by
  induction n using Nat.strongRecOn with
  | _ n ih => exact ⟨soundC_step hT (fun m hm => (ih m hm).1) (fun m hm => (ih m hm).2.1) (fun m hm => (ih m hm).2.2) (soundR_step hT hFT fun m hm => (ih m hm).1), soundO_step hT hFT hPu (fun m hm => (ih m hm).1) (fun m hm => (ih m hm).2.1), soundD_step hT hm (fun m hm => (ih m hm).2.1)⟩

theorem Meets.of_run (hT : checkT P C.T = true) (hFT : FTOk P C.FT) (hm : P.follows .mixedOrders = true) {f : Nat} {fd : Func} (hf : P.funcs[f]? = some fd) {args : List SV} {hp : List Ck} {cnt : Cnt} {ρ : Env} (hl : Lens ρ cnt)
    (h : VC P Post (runF C f args hp cnt fd) ρ fun _ => LC.none) (hPu : PureOk P C := by exact PureOk.none rfl) : Meets P f (SV.vals ρ args) (hp.map (Ck.den ρ)) Post := by
  intro w Fs hown
  unfold runF at h
  split at h
  case h_2 => exact h.elim
  rename_i c hb
  split at h
  case isFalse => exact h.elim
  rename_i hsc
  simp only [Bool.and_eq_true] at hsc
  have hw : HW Fs w { fn := f, fr := enumFrom 0 args, hp := hp, cnt := cnt, nt := ⟨fd.ntmps, []⟩ } ρ w :=
    ⟨hl, enum_sc args 0 hsc.1, hsc.2, rfl, fun b hb => (by cases hb), hown, Same.refl w, rfl⟩
  have hwp := (run_sound (Post := Post) (Fs := Fs) (w0 := w) hT hFT hPu hm 100000).1 none c _ _ ρ _ _ w h hw (enter_HA args fd.ntmps) ⟨fun l r fn nt fr ps x y fd hm => (by simp at hm), rfl⟩
  have key : ∀ a' w', At P C Post Fs w 100000 [.top fd] ρ (fun _ => LC.none) a' w' → LeavesInM (FW none) 0 P fd a'.tmps (fun e w' => ∃ v hs, e = .returned v ∧ Post v hs ∧ Owns (hs ++ Fs) w' ∧ Same w w') a'.defers .returning w' := by
    intro a' w' ⟨m, hm, st', ρ', L', h1, h2, h3, h4, h5⟩
    cases m with
    | zero => exact h5.elim
    | succ m =>
      simp only [run] at h5
      split at h5
      case h_2 => exact h5.elim
      rename_i st2 hlv
      have hst2 : st2.fr = st'.fr := by
        unfold leaveSt at hlv
        rw [Option.map_eq_some_iff] at hlv
        obtain ⟨hp', _, rfl⟩ := hlv
        rfl
      split at h5
      · rename_i v hv
        refine leaveSt_sound hlv h3 h4 fun w2 hw2 => ?_
        exact ⟨_, resAll_sound hT hw2 (nt := st'.nt) (by rw [hst2]; exact h4) hv, _, _, rfl, h5, hw2.own, hw2.same⟩
      · exact h5.elim
  have fin : ∀ e a' w', QK P C Post Fs w 100000 [.top fd] ρ (fun _ => LC.none) e a' w' → bodyPostM (FW none) 0 P fd (fun e w' => ∃ v hs, e = .returned v ∧ Post v hs ∧ Owns (hs ++ Fs) w' ∧ Same w w') e a' w' := by
    intro e a' w' hq
    obtain ⟨k', hk, hat⟩ := hq
    cases e with
    | normal => cases hk; exact key a' w' hat
    | ret => cases hk; exact key a' w' hat
    | exit id => cases hk
    | goto l => cases hk
    | panic l => cases hk
    | outgrown => cases hk
  have main : CallsIn (FW none) 0 P f (SV.vals ρ args).toArray w (fun e w' => ∃ v hs, e = .returned v ∧ Post v hs ∧ Owns (hs ++ Fs) w' ∧ Same w w') := by
    refine callsIn_of_wp_marks hf hb trivial (wpIn_mono hwp ?_) rfl
    exact fin
  have main' : CallsIn Fence.wide 0 P f (SV.vals ρ args).toArray w (fun e w' => ∃ v hs, e = .returned v ∧ Post v hs ∧ Owns (hs ++ Fs) w' ∧ Same w w') := main
  exact callsIn_wide.1 main'
end
end Go.RX
