/- The law hailerlaw41.AuditLines holds: whatever finding and whatever text there are, the call returns true and writes nothing that was there. Conditions: none. -/
import Derived.Test.YtgaabcinjbjbgaaGreatDoorTie
import Derived.Test.YtgaabcinjbjbgaaGreatDoorCards
import Derived.Test.YtgaabcinjbjbgaaGreatDoorLwL
import Derived.Test.YtgaabcinjbjbgaaGreatDoorLaid
import Derived.Test.YtgaabcinjbjbgaaGreatDoorRyZ
import Derived.WalkKit
import Derived.ProofKit
import Derived.OpenShut
import Derived.ChangeOld
import Derived.ChangeMaps5
import Derived.Below
import Derived.Lay
import Derived.LaidOnce
import Derived.SevenTiedAt
namespace Go.Proofs.YtgaabcinjbjbgaaGreatDoor.auditLines
open Go.ChangeShapes Go.WideShapes Go.ChangeAt Go.RowKit Go.Proofs

theorem own : ownKnob Tryz.prog.godebug = none := by kernel_rfl
theorem laidOut : laidOutB Tryz.prog = true := by kernel_rfl

abbrev lay : List (RX.CellK × Nat) := [(some .u8, 1), (some .i64, 1), (some .u8, 1), (some .u8, 1), (some .u8, 16)]

theorem walk (F : Nat → Int) (s : ByteArray) (w : World) (hL : RX.Ln.Laid0 w w.heap.size) (hF : ∀ (j : Nat) k, (RX.layCells lay)[j]? = some k → RX.cellWf k (F j)) :
    Calls Tryz.prog 5 #[.agg (RX.layV lay F).toArray, .string s] w fun e w' => e = .returned (.bool true) ∧ Below w.heap.size w w' := by
  have byte : ∀ j : Nat, (RX.layCells lay)[j]? = some (some .u8) → 0 ≤ F j ∧ F j ≤ 255 := by
    intro j hj
    have := hF j (some .u8) hj
    simp [RX.cellWf, Lit.wf, IntKind.min, IntKind.max, IntKind.signed, IntKind.bits] at this
    omega
  have h1 : F 1 ≤ 9223372036854775807 := by
    have := hF 1 (some .i64) rfl
    simp [RX.cellWf, Lit.wf, IntKind.min, IntKind.max, IntKind.signed, IntKind.bits] at this
    omega
  have hA : ∀ j, j < 16 → 0 ≤ F (j + 4) ∧ F (j + 4) ≤ 255 := by
    intro j hj
    apply byte
    have : j = 0 ∨ j = 1 ∨ j = 2 ∨ j = 3 ∨ j = 4 ∨ j = 5 ∨ j = 6 ∨ j = 7 ∨ j = 8 ∨ j = 9 ∨ j = 10 ∨ j = 11 ∨ j = 12 ∨ j = 13 ∨ j = 14 ∨ j = 15 := by omega
    rcases this with rfl | rfl | rfl | rfl | rfl | rfl | rfl | rfl | rfl | rfl | rfl | rfl | rfl | rfl | rfl | rfl <;> rfl
  have := RX.Lw.law_meets hL (F 0) (F 1) (F 2) (F 3) (fun j => F (j + 4)) s.data.toList (byte 0 rfl) h1 (byte 2 rfl) (byte 3 rfl) hA
  have h2 := (this.post (q := fun v _ => v = .bool true) fun v hs h => ⟨hs, RX.Ent.refl _, h.1⟩).law w (RX.Owns.dup rfl (RX.owns_kept w))
  have e1 : RX.Ln.strV s.data.toList = .string s := by
    unfold RX.Ln.strV
    congr 1
  rw [e1] at h2
  exact h2

noncomputable def laid : List (String × DataW Unit) := Rows.auditLinesRow.laid
set_option maxRecDepth 100000 in
theorem lifted (os : Os) (started : os.Started) (H : Type) (enc : TypeId × Value → H) :
    ReturnsInHanded {} Tryz.checked os 5 .any (fun w args => (Rows.auditLinesSpec.pre enc Tryz.prog Tryz.f5 [] false w args ∧ laidMetH Tryz.prog laid w) ∧ sizedMet enc Tryz.prog Tryz.f5 (OpenSpec.ofChange Rows.auditLinesSpec) false w args)
      (Rows.auditLinesSpec.post enc Tryz.prog Tryz.f5 false true false false) := by
  refine RX.returnsInHanded_shapedX (C := Tryz.checked) (X := fun w _ => laidMetH Tryz.prog laid w) (fun _ _ _ hh h => h.of_heap hh) own started (by kernel_rfl) Tryz.func5
    (ChangeSpec.witness_shaped (enc := enc) (C := Tryz.checked) (os := os) (X := fun w _ => laidMetH Tryz.prog laid w) false (World.laidAll Tryz.prog os laid) #[.agg (RX.layV lay fun _ => 0).toArray, .string ⟨#[]⟩] 8 (World.laidAll_os _ _ _)
      (World.shaped_of_ZipB (by kernel_rfl) (by kernel_rfl)) (by kernel_rfl) (by kernel_rfl) (by kernel_rfl)
      (by rw [MakeChecks.laidMetH_plain _ _ _ (by kernel_rfl)]; exact laidMet_laidAll _ (by kernel_rfl) (by kernel_rfl))) ?_
  intro W base args ds gs before hval0 hW _ _ hL hsh _
  have hval : ∀ (j : Nat) t v, Tryz.f5.params[j]? = some t → args[j]? = some v → Value.okWide Tryz.prog W .any base t v := hval0
  have hW' := hW
  obtain ⟨p, q, hA0, hV, rfl, _, _⟩ := hW
  have hA : DataW.TrodAll enc Tryz.prog W 0 (fun _ => true) true Tryz.f5.params.toList args.toList ds p := hA0
  rw [Tryz.params5] at hA hval
  obtain ⟨v0, vs0, d0, ds0, p0, q0, hargs, rfl, rfl, h0, r0⟩ := trodAll_cons hA
  obtain ⟨v1, vs1, d1, ds1, p1, q1, rfl, rfl, rfl, h1, r1⟩ := trodAll_cons r0
  obtain ⟨rfl, rfl, rfl⟩ := trodAll_nil r1
  obtain rfl : args = #[v0, v1] := by cases args; simp_all
  obtain ⟨rfl, rfl⟩ := trodVars_none hV
  obtain ⟨F0, rfl, w0⟩ := RX.open_flat (n := 4) (l := lay) (by kernel_rfl) (by kernel_rfl) (by kernel_rfl) (hval 0 59 v0 rfl rfl) h0
  have h1' := h1
  obtain ⟨s, rfl, rfl, rfl, _⟩ := ChangeMaps.open_string Tryz.underlying9 (hval 1 9 v1 rfl rfl) h1
  rw [MakeChecks.laidMetH_plain _ _ _ (by kernel_rfl)] at hL
  have hl0 : RX.Ln.Laid0 W W.heap.size := RX.Ln.laid0 (l := laid) hL (by simp [laid, Rows.auditLinesRow]) (by simp [laid, Rows.auditLinesRow]) (by simp [laid, Rows.auditLinesRow]) (by simp [laid, Rows.auditLinesRow]) hsh
  have lt : ∀ {t v d p}, DataW.Trod enc Tryz.prog W 0 (fun _ => true) true t v d p → ∀ x ∈ p, x.block < W.heap.size := fun k => by obtain ⟨m, hm⟩ := k; exact DataW.trod_lt m _ _ _ hm
  clear hA0 hval0
  refine (walk F0 s W hl0 w0).mono fun e W' ⟨he, bel⟩ => ?_
  subst he
  exact ⟨_, rfl, _, _, _, [], _, [], hW', trodAll_mk1 (shut_bool Tryz.underlying4 _), (trodAll_cons_mk (Below.trod laidOut (by kernel_rfl) (of_decide_eq_true (by kernel_rfl)) h0 bel (lt h0)) (trodAll_cons_mk (Below.trod laidOut (by kernel_rfl) (of_decide_eq_true (by kernel_rfl)) h1' bel (lt h1')) trodAll_mk0)), rfl, bel.frame _, fun h => by cases h⟩

theorem over : Rows.auditLinesRow.holds Tryz.pinned (OpenSpec.ofChange Rows.auditLinesSpec) :=
  OpenClaim.holds_of_wide 5 Tryz.f5 rfl rfl rfl rfl rfl rfl rfl ⟨rfl, rfl, rfl, rfl, rfl⟩ rfl rfl rfl rfl rfl (by kernel_rfl) Tryz.func5 (by kernel_rfl)
    (of_decide_eq_true (by kernel_rfl)) (by unfold Func.isWrapper; first | (rw [if_pos (by decide +kernel)]; kernel_rfl) | (rw [if_neg (by decide +kernel)]; exact ⟨rfl, rfl⟩))
    (fun os started H enc _ => lifted os started H enc)

theorem proved : Rows.AuditLinesCardSaid :=
  Claim7.holds_tied_plain_at .later [] [.data, .data, .data, .data, .sentinel, .sentinel, .pinned] true (true, "5b2e0039f0a481d208a958c26286c5754110a027df63b187f3830b27fbafea20") true over (fun _ h => by cases h) (by kernel_rfl) (fun _ h => by cases h) auditLines_row_tie rfl ⟨rfl, rfl⟩ (by kernel_rfl) rfl
    (fun f fn hf hfn => by
      obtain rfl : f = 5 := Option.some.inj ((show Tryz.prog.funcNamed "hailer/hailerlaw41.AuditLines" = some 5 by kernel_rfl).symm.trans hf) |>.symm
      obtain rfl : fn = Tryz.f5 := (Option.some.inj (Tryz.func5.symm.trans hfn)).symm
      exact ⟨by kernel_rfl, fun j t ht => by
        rw [Tryz.params5] at ht
        have hm : t ∈ [59, 9] := by simpa using Array.mem_of_getElem? ht
        have hall : ([59, 9].all fun u => !Tryz.prog.wantsStandIn u) = true := by kernel_rfl
        exact (show Tryz.prog.wantsStandIn t = false by simpa using List.all_eq_true.1 hall t hm)⟩)
    (by kernel_rfl)
#print axioms proved
end Go.Proofs.YtgaabcinjbjbgaaGreatDoor.auditLines
