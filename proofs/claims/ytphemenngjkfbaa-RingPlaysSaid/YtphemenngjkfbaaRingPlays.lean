/- The law hailerlaw26.RingPlays holds: whatever is done with a fan of whatever account and number of devices, it answers as the document tells, the call returns true and writes nothing that was there. Conditions: none. -/
import Derived.Test.YtphemenngjkfbaaRows
import Derived.Test.YtphemenngjkfbaaRpL
import Derived.Test.YtphemenngjkfbaaRxZf
import Derived.WalkKit
import Derived.ProofKit
import Derived.OpenShut
import Derived.ChangeOld
import Derived.Below
namespace Go.Proofs.Ytphemenngjkfbaa.ringPlays
open Go.ChangeShapes Go.WideShapes Go.ChangeAt Go.RowKit

theorem own : ownKnob Try.prog.godebug = none := by kernel_rfl
theorem laidOut : laidOutB Try.prog = true := by kernel_rfl

abbrev doCells : List (Option IntKind) := [some .u8, some .u8, some .u8, some .u8, some .i64]

theorem walk (acc a0 : Int) (wacc : (Lit.int .u8 acc).wf = true) (a1 : Option Addr) (len1 cap1 : Nat) (F : Nat → Nat → Int) (w : World) (w1 : RX.IsTab doCells w a1 len1 cap1 F) :
    Calls Try.prog 4 #[.int .u8 acc, .int .i64 a0, .slice a1 len1 cap1] w fun e w' => e = .returned (.bool true) ∧ Below w.heap.size w w' := by
  have hown := RX.owns_tab w1 (by decide) 32
  have h2 : ∀ j : Int, 0 ≤ j → j < len1 → 0 ≤ F j.toNat 2 ∧ F j.toNat 2 ≤ 255 := by
    intro j h0 h1
    rcases w1 with ⟨_, rfl, _⟩ | ⟨x, _, _, _, hc⟩
    · omega
    · have := (hc j.toNat (by omega) 2 (some .u8) rfl).2
      simp [RX.cellWf, Lit.wf, IntKind.min, IntKind.max, IntKind.signed, IntKind.bits] at this
      omega
  by_cases hn : 8 ≤ acc ∨ a0 < 1 ∨ 4 < a0
  · exact (RX.Rp.law_bad ⟨.slice a1 len1 cap1, rfl⟩ acc a0 len1 (fun i => F i 0) (fun i => F i 1) (fun i => F i 2) (fun i => F i 3) (fun i => F i 4) hn).law w hown
  · exact (RX.Rp.law_good ⟨.slice a1 len1 cap1, rfl⟩ acc a0 len1 (fun i => F i 0) (fun i => F i 1) (fun i => F i 2) (fun i => F i 3) (fun i => F i 4) (by omega) (by omega) (by omega) (by omega) h2).law w hown

set_option maxRecDepth 100000 in
theorem lifted (os : Os) (started : os.Started) (H : Type) (enc : TypeId × Value → H) :
    ReturnsInHanded {} Try.checked os 4 .any (Rows.ringPlaysSpec.pre6 enc Try.prog Try.f4 Rows.ringPlaysRow.domain false) (Rows.ringPlaysSpec.post enc Try.prog Try.f4 false true false false) := by
  refine returnsInHanded_of_change (C := Try.checked) own started (by kernel_rfl) Try.func4
    (ChangeSpec.witness6 (enc := enc) (C := Try.checked) false ⟨#[], #[.int .u8 0, .int .i64 0, .slice none 0 0], []⟩ 8 (by kernel_rfl) (by kernel_rfl) (by kernel_rfl) (by kernel_rfl)) ?_
  intro W base args ds gs before hval0 hW hcnd _
  have hval : ∀ (j : Nat) t v, Try.f4.params[j]? = some t → args[j]? = some v → Value.okWide Try.prog W .any base t v := hval0
  have hW' := hW
  obtain ⟨p, q, hA0, hV, rfl, hfz, hnd⟩ := hW
  have hA : DataW.TrodAll enc Try.prog W 0 (fun _ => true) true Try.f4.params.toList args.toList ds p := hA0
  rw [Try.params4] at hA hval
  obtain ⟨v0, vs0, d0, ds0, p0, q0, hargs, rfl, rfl, h0, r0⟩ := trodAll_cons hA
  obtain ⟨v1, vs1, d1, ds1, p1, q1, rfl, rfl, rfl, h1, r1⟩ := trodAll_cons r0
  obtain ⟨v2, vs2, d2, ds2, p2, q2, rfl, rfl, rfl, h2, r2⟩ := trodAll_cons r1
  obtain ⟨rfl, rfl, rfl⟩ := trodAll_nil r2
  obtain rfl : args = #[v0, v1, v2] := by cases args; simp_all
  obtain ⟨rfl, rfl⟩ := trodVars_none hV
  obtain ⟨acc, rfl, rfl, rfl, wacc⟩ := open_int Try.underlying5 (hval 0 5 v0 rfl rfl) h0
  obtain ⟨a0, rfl, rfl, rfl, w0⟩ := open_int Try.underlying3 (hval 1 3 v1 rfl rfl) h1
  obtain ⟨a1, len1, cap1, rfl⟩ := okWide_slice Try.underlying22 (hval 2 22 v2 rfl rfl)
  have k1 := h2
  have lt1 : ∀ x ∈ p2, x.block < W.heap.size := by obtain ⟨m, hm⟩ := k1; exact DataW.trod_lt m _ _ _ hm
  obtain ⟨F, w1⟩ : ∃ F, RX.IsTab doCells W a1 len1 cap1 F := by
    obtain ⟨fuel, hf⟩ := h2
    obtain ⟨a, l, c, F, hcs, hF⟩ := RX.open_tab (n := 3) (ks := doCells) Try.underlying22 (by kernel_rfl) (by kernel_rfl) hf
    simp [Value.cells] at hcs
    obtain ⟨rfl, rfl, rfl⟩ := hcs
    exact ⟨F, hF⟩
  clear hA0 hval0
  refine (walk acc a0 wacc a1 len1 cap1 F W w1).mono fun e W' ⟨he, bel⟩ => ?_
  subst he
  exact ⟨_, rfl, _, _, _, [], _, [], hW', trodAll_mk1 (shut_bool Try.underlying4 _), (trodAll_cons_mk (shut_int Try.underlying5 wacc) (trodAll_cons_mk (shut_int Try.underlying3 w0) (trodAll_cons_mk (Below.trod laidOut (by kernel_rfl) (of_decide_eq_true (by kernel_rfl)) k1 bel lt1) trodAll_mk0))), rfl, bel.frame _, fun h => by cases h⟩

theorem over : Rows.ringPlaysRow.holds Try.pinned (OpenSpec.ofChange Rows.ringPlaysSpec) :=
  OpenClaim.holds_of_wide 4 Try.f4 rfl rfl rfl rfl rfl rfl rfl ⟨rfl, rfl, rfl, rfl, rfl⟩ rfl rfl rfl rfl rfl (by kernel_rfl) Try.func4 (by kernel_rfl)
    (of_decide_eq_true (by kernel_rfl)) (by unfold Func.isWrapper; first | (rw [if_pos (by decide +kernel)]; kernel_rfl) | (rw [if_neg (by decide +kernel)]; exact ⟨rfl, rfl⟩))
    (fun os started H enc _ => lifted os started H enc)

theorem proved : Rows.RingPlaysSaid := over
#print axioms proved
end Go.Proofs.Ytphemenngjkfbaa.ringPlays
