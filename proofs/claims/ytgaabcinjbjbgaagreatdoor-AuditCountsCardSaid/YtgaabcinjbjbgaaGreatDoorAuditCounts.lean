/- The law hailerlaw41.AuditCounts holds: whatever events there are, the call returns true and writes nothing that was there. Conditions: none. -/
import Derived.Test.YtgaabcinjbjbgaaGreatDoorTie
import Derived.Test.YtgaabcinjbjbgaaGreatDoorCards
import Derived.Test.YtgaabcinjbjbgaaGreatDoorAc
import Derived.Test.YtgaabcinjbjbgaaGreatDoorRyZ
import Derived.WalkKit
import Derived.ProofKit
import Derived.OpenShut
import Derived.ChangeOld
import Derived.Below
import Derived.Lay
import Derived.LaidOnce
import Derived.SevenTiedAt
namespace Go.Proofs.YtgaabcinjbjbgaaGreatDoor.auditCounts
open Go.ChangeShapes Go.WideShapes Go.ChangeAt Go.RowKit Go.Proofs

theorem own : ownKnob Tryz.prog.godebug = none := by kernel_rfl
theorem laidOut : laidOutB Tryz.prog = true := by kernel_rfl

abbrev lay : List (RX.CellK × Nat) := [(some .u8, 1), (some .i64, 1), (some .u8, 1), (some .u8, 1), (some .u8, 16)]

theorem walk (a1 : Option Addr) (len1 cap1 : Nat) (F : Nat → Nat → Int) (w : World) (w1 : RX.IsTab (RX.layCells lay) w a1 len1 cap1 F) :
    Calls Tryz.prog 6 #[.slice a1 len1 cap1] w fun e w' => e = .returned (.bool true) ∧ Below w.heap.size w w' := by
  have hb : ∀ i : Nat, i < len1 → 0 ≤ F i 0 ∧ F i 0 ≤ 255 := by
    intro i hi
    rcases w1 with ⟨_, h, _⟩ | ⟨x, _, hl, _, hc⟩
    · omega
    · have := (hc i hi 0 (some .u8) rfl).2
      simp [RX.cellWf, Lit.wf, IntKind.min, IntKind.max, IntKind.signed, IntKind.bits] at this
      omega
  have hown := RX.owns_lay w1 (by decide) 59
  have := RX.Ac.law_meets ⟨.slice a1 len1 cap1, rfl⟩ len1 (fun m => F (m / 1) (m % 1)) (fun m => F (m / 1) (1 + m % 1)) (fun m => F (m / 1) (1 + (1 + m % 1))) (fun m => F (m / 1) (1 + (1 + (1 + m % 1)))) (fun m => F (m / 16) (1 + (1 + (1 + (1 + m % 16)))))
    (by omega) (fun j h0 h1 => by
      have h := hb j.toNat (by omega)
      show 0 ≤ F (j.toNat / 1) (j.toNat % 1) ∧ F (j.toNat / 1) (j.toNat % 1) ≤ 255
      rw [Nat.div_one, Nat.mod_one]
      exact h)
  exact this.law w hown

noncomputable def laid : List (String × DataW Unit) := Rows.auditCountsRow.laid
set_option maxRecDepth 100000 in
theorem lifted (os : Os) (started : os.Started) (H : Type) (enc : TypeId × Value → H) :
    ReturnsInHanded {} Tryz.checked os 6 .any (fun w args => (Rows.auditCountsSpec.pre enc Tryz.prog Tryz.f6 [] false w args ∧ laidMetH Tryz.prog laid w) ∧ sizedMet enc Tryz.prog Tryz.f6 (OpenSpec.ofChange Rows.auditCountsSpec) false w args)
      (Rows.auditCountsSpec.post enc Tryz.prog Tryz.f6 false true false false) := by
  refine returnsInHanded_of_change_and (C := Tryz.checked) (X := fun w _ => laidMetH Tryz.prog laid w) (fun _ _ _ hh h => h.of_heap hh) own started (by kernel_rfl) Tryz.func6
    (ChangeSpec.witness_shaped (enc := enc) (C := Tryz.checked) (os := os) (X := fun w _ => laidMetH Tryz.prog laid w) false (World.laidAll Tryz.prog os laid) #[.slice none 0 0] 8 (World.laidAll_os _ _ _)
      (World.shaped_of_ZipB (by kernel_rfl) (by kernel_rfl)) (by kernel_rfl) (by kernel_rfl) (by kernel_rfl)
      (by rw [MakeChecks.laidMetH_plain _ _ _ (by kernel_rfl)]; exact laidMet_laidAll _ (by kernel_rfl) (by kernel_rfl))) ?_
  intro W base args ds gs before hval0 hW _ _ hL _
  have hval : ∀ (j : Nat) t v, Tryz.f6.params[j]? = some t → args[j]? = some v → Value.okWide Tryz.prog W .any base t v := hval0
  have hW' := hW
  obtain ⟨p, q, hA0, hV, rfl, _, _⟩ := hW
  have hA : DataW.TrodAll enc Tryz.prog W 0 (fun _ => true) true Tryz.f6.params.toList args.toList ds p := hA0
  rw [Tryz.params6] at hA hval
  obtain ⟨v1, d1, rfl, rfl, h1⟩ := trodAll_one hA
  obtain ⟨rfl, rfl⟩ := trodVars_none hV
  obtain ⟨a1, len1, cap1, rfl⟩ := okWide_slice Tryz.underlying68 (hval 0 68 v1 rfl rfl)
  have k1 := h1
  have lt1 : ∀ x ∈ p, x.block < W.heap.size := by obtain ⟨m, hm⟩ := k1; exact DataW.trod_lt m _ _ _ hm
  obtain ⟨F, w1⟩ : ∃ F, RX.IsTab (RX.layCells lay) W a1 len1 cap1 F := by
    obtain ⟨fuel, hf⟩ := h1
    obtain ⟨a, l, c, F, hcs, hF⟩ := RX.open_tabA (n := 4) (ks := RX.layCells lay) Tryz.underlying68 (by kernel_rfl) (by kernel_rfl) hf
    simp [Value.cells] at hcs
    obtain ⟨rfl, rfl, rfl⟩ := hcs
    exact ⟨F, hF⟩
  clear hA0 hval0
  refine (walk a1 len1 cap1 F W w1).mono fun e W' ⟨he, bel⟩ => ?_
  subst he
  exact ⟨_, rfl, _, _, _, [], _, [], hW', trodAll_mk1 (shut_bool Tryz.underlying4 _), trodAll_mk1 (Below.trod laidOut (by kernel_rfl) (of_decide_eq_true (by kernel_rfl)) k1 bel lt1), rfl, bel.frame _, fun h => by cases h⟩

theorem over : Rows.auditCountsRow.holds Tryz.pinned (OpenSpec.ofChange Rows.auditCountsSpec) :=
  OpenClaim.holds_of_wide 6 Tryz.f6 rfl rfl rfl rfl rfl rfl rfl ⟨rfl, rfl, rfl, rfl, rfl⟩ rfl rfl rfl rfl rfl (by kernel_rfl) Tryz.func6 (by kernel_rfl)
    (of_decide_eq_true (by kernel_rfl)) (by unfold Func.isWrapper; first | (rw [if_pos (by decide +kernel)]; kernel_rfl) | (rw [if_neg (by decide +kernel)]; exact ⟨rfl, rfl⟩))
    (fun os started H enc _ => lifted os started H enc)

theorem proved : Rows.AuditCountsCardSaid :=
  Claim7.holds_tied_plain_at .later [] [.data, .data, .data, .data, .sentinel, .sentinel, .pinned] true (true, "5b2e0039f0a481d208a958c26286c5754110a027df63b187f3830b27fbafea20") true over (fun _ h => by cases h) (by kernel_rfl) (fun _ h => by cases h) auditCounts_row_tie rfl ⟨rfl, rfl⟩ (by kernel_rfl) rfl
    (fun f fn hf hfn => by
      obtain rfl : f = 6 := Option.some.inj ((show Tryz.prog.funcNamed "hailer/hailerlaw41.AuditCounts" = some 6 by kernel_rfl).symm.trans hf) |>.symm
      obtain rfl : fn = Tryz.f6 := (Option.some.inj (Tryz.func6.symm.trans hfn)).symm
      exact ⟨by kernel_rfl, fun j t ht => by
        rw [Tryz.params6] at ht
        have hm : t ∈ [68] := by simpa using Array.mem_of_getElem? ht
        have hall : ([68].all fun u => !Tryz.prog.wantsStandIn u) = true := by kernel_rfl
        exact (show Tryz.prog.wantsStandIn t = false by simpa using List.all_eq_true.1 hall t hm)⟩)
    (by kernel_rfl)
#print axioms proved
end Go.Proofs.YtgaabcinjbjbgaaGreatDoor.auditCounts
