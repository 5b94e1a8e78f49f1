/- The law hailerlaw32.ScriptPrints holds: whatever moves and whatever answer there are, the call returns true and writes nothing that was there. Conditions: none. -/
import Derived.Test.YtgaabcinjbjbgaaGreatDoorTie
import Derived.Test.YtgaabcinjbjbgaaGreatDoorCards
import Derived.Test.YtgaabcinjbjbgaaGreatDoorSyR
import Derived.Test.YtgaabcinjbjbgaaGreatDoorLaid
import Derived.Test.YtgaabcinjbjbgaaGreatDoorRyZ
import Derived.WalkKit
import Derived.ProofKit
import Derived.OpenShut
import Derived.ChangeOld
import Derived.ChangeMaps5
import Derived.Below
import Derived.Lay
import Derived.LaidOnce
import Derived.SevenTiedAt
namespace Go.Proofs.YtgaabcinjbjbgaaGreatDoor.scriptPrints
open Go.ChangeShapes Go.WideShapes Go.ChangeAt Go.RowKit Go.Proofs

theorem own : ownKnob Tryz.prog.godebug = none := by kernel_rfl
theorem laidOut : laidOutB Tryz.prog = true := by kernel_rfl

theorem walk (W : World) (hL : RX.Ln.Laid0 W W.heap.size) (a : Option Addr) (cap : Nat) (M : RX.Sq.Mv) (hM : RX.Sq.IsMv W a cap M) (ok : RX.Sq.MvOk W.heap.size W M) (hB : ∀ i, i < M.n → (M.B i).length ≤ maxLen)
    (q : Bool) (e : Int) (A : Nat → Int) (v1 : RX.V1) (l : List UInt8) (he : -9223372036854775808 ≤ e ∧ e ≤ 9223372036854775807) (hA : ∀ j, j < 16 → 0 ≤ A j ∧ A j ≤ 255) (hb : RX.Sq.BV W.heap.size W v1 l) :
    Calls Tryz.prog 4 #[.slice a M.n cap, RX.Sq.resV q e A v1] W fun e w' => e = .returned (.bool true) ∧ Below W.heap.size W w' := by
  have hcap := hM.cap
  have hle := hM.le
  have hmax : maxLen ≤ 9223372036854775807 := by unfold maxLen; decide
  have law := RX.Sq.law_meets hL ⟨.slice a M.n cap, rfl⟩ v1 ok (by omega) (fun i hi => Nat.le_trans (hB i hi) hmax) q e A l he hA hb
  obtain ⟨mp, mlt⟩ := RX.Sq.mv_p hM
  have := RX.Meets.lookIn (L := [RX.keptHP W.heap.size W, RX.Sq.sliM ⟨.slice a M.n cap, rfl⟩ M, RX.Sp.sliB v1 l]) (by
    intro x hx
    simp only [List.mem_cons, List.mem_nil_iff, or_false] at hx
    rcases hx with rfl | rfl | rfl <;> rfl) law [RX.keptHP W.heap.size W] (by
    intro w Fs ⟨S, hS⟩ x hx
    obtain ⟨hp, hlt⟩ := hS.at_ 0 (RX.keptHP W.heap.size W) rfl
    simp only [List.mem_cons, List.mem_nil_iff, or_false] at hx
    rcases hx with rfl | rfl | rfl
    · exact ⟨_, hp, hlt⟩
    · exact ⟨_, (RX.Sq.sliM ⟨.slice a M.n cap, rfl⟩ M).stable W w _ mp (fun k hk => hp.2 k (mlt k hk)), fun k hk => hlt k ((hp.1 k).2 (mlt k hk))⟩
    · exact ⟨_, RX.Sq.bv_p hp.2 hb, fun k hk => hlt k ((hp.1 k).2 (hb.below k hk.1 hk.2))⟩)
  exact (this.post (q := fun v _ => v = .bool true) fun v hs h => ⟨hs, RX.Ent.refl _, h.1⟩).law W (RX.Owns.dup rfl (RX.owns_kept W))

def resKs : List (Option IntKind) := none :: some .i64 :: List.replicate 16 (some .u8)
theorem res_struct : Tryz.prog.underlying 45 = some (.struct #[{ name := "Is", type := 4, offset := 0, embedded := false, tag := "", pkgPath := "", byteOffset := 0 }, { name := "E", type := 24, offset := 1, embedded := false, tag := "", pkgPath := "", byteOffset := 8 }, { name := "Id", type := 43, offset := 2, embedded := false, tag := "", pkgPath := "", byteOffset := 16 }, { name := "B", type := 37, offset := 18, embedded := false, tag := "", pkgPath := "", byteOffset := 32 }]) := by kernel_rfl
theorem res_cells (cs : Array Value) (hs : cs.size = 19) (F : Nat → Int) (b : Value) (h : ∀ (j : Nat) k, resKs[j]? = some k → cs[j]? = some (RX.cellV k (F j)) ∧ RX.cellWf k (F j)) (hb : cs[18]? = some b) :
    cs = (.bool (!(F 0 == 0)) :: (.int .i64 (F 1) :: (List.append (RX.segCells .u8 16 fun j => F (j + 2)) ([b])))).toArray := by
  apply Array.ext'
  apply List.ext_getElem?
  intro j
  rw [Array.getElem?_toList]
  match j with
  | 0 => exact (h 0 _ rfl).1
  | 1 => exact (h 1 _ rfl).1
  | j + 2 =>
    show _ = (RX.segCells .u8 16 (fun j => F (j + 2)) ++ [b])[j]?
    by_cases hj : j < 16
    · rw [List.getElem?_append_left (by rw [RX.segCells_length]; exact hj), RX.segCells_getElem?, if_pos hj]
      have : resKs[j + 2]? = some (some .u8) := by
        show (List.replicate 16 (some IntKind.u8))[j]? = _
        rw [List.getElem?_replicate, if_pos hj]
      exact (h (j + 2) _ this).1
    · rw [List.getElem?_append_right (by rw [RX.segCells_length]; omega), RX.segCells_length]
      by_cases h16 : j = 16
      · subst h16
        exact hb
      · rw [Array.getElem?_eq_none (by omega), List.getElem?_eq_none (by simp; omega)]
noncomputable def laid : List (String × DataW Unit) := Rows.scriptPrintsRow.laid
set_option maxRecDepth 100000 in
theorem lifted (os : Os) (started : os.Started) (H : Type) (enc : TypeId × Value → H) :
    ReturnsInHanded {} Tryz.checked os 4 .any (fun w args => (Rows.scriptPrintsSpec.pre enc Tryz.prog Tryz.f4 [] false w args ∧ laidMetH Tryz.prog laid w) ∧ sizedMet enc Tryz.prog Tryz.f4 (OpenSpec.ofChange Rows.scriptPrintsSpec) false w args)
      (Rows.scriptPrintsSpec.post enc Tryz.prog Tryz.f4 false true false false) := by
  refine RX.returnsInHanded_shapedX (C := Tryz.checked) (X := fun w _ => laidMetH Tryz.prog laid w) (fun _ _ _ hh h => h.of_heap hh) own started (by kernel_rfl) Tryz.func4
    (ChangeSpec.witness_shaped (enc := enc) (C := Tryz.checked) (os := os) (X := fun w _ => laidMetH Tryz.prog laid w) false (World.laidAll Tryz.prog os laid) #[.slice none 0 0, RX.Sq.resV false 0 (fun _ => 0) ⟨.slice none 0 0, rfl⟩] 8 (World.laidAll_os _ _ _)
      (World.shaped_of_ZipB (by kernel_rfl) (by kernel_rfl)) (by kernel_rfl) (by kernel_rfl) (by kernel_rfl)
      (by rw [MakeChecks.laidMetH_plain _ _ _ (by kernel_rfl)]; exact laidMet_laidAll _ (by kernel_rfl) (by kernel_rfl))) ?_
  intro W base args ds gs before hval0 hW _ _ hL hsh _
  have hval : ∀ (j : Nat) t v, Tryz.f4.params[j]? = some t → args[j]? = some v → Value.okWide Tryz.prog W .any base t v := hval0
  have hW' := hW
  obtain ⟨p, q, hA0, hV, rfl, _, _⟩ := hW
  have hA : DataW.TrodAll enc Tryz.prog W 0 (fun _ => true) true Tryz.f4.params.toList args.toList ds p := hA0
  rw [Tryz.params4] at hA hval
  obtain ⟨v0, vs0, d0, ds0, p0, q0, hargs, rfl, rfl, h0, r0⟩ := trodAll_cons hA
  obtain ⟨v1, vs1, d1, ds1, p1, q1, rfl, rfl, rfl, h1, r1⟩ := trodAll_cons r0
  obtain ⟨rfl, rfl, rfl⟩ := trodAll_nil r1
  obtain rfl : args = #[v0, v1] := by cases args; simp_all
  obtain ⟨rfl, rfl⟩ := trodVars_none hV
  obtain ⟨a, len, cap, rfl⟩ := okWide_slice Tryz.underlying23 (hval 0 23 v0 rfl rfl)
  obtain ⟨M, hlen, hM, ok, hB⟩ : ∃ M : RX.Sq.Mv, len = M.n ∧ RX.Sq.IsMv W a cap M ∧ RX.Sq.MvOk W.heap.size W M ∧ ∀ i, i < M.n → (M.B i).length ≤ maxLen := by
    obtain ⟨fuel, hf⟩ := h0
    obtain ⟨a', cap', M, hcs, hM, ok, hB⟩ := RX.Sq.open_mv hf
    simp [Value.cells] at hcs
    obtain ⟨rfl, rfl, rfl⟩ := hcs
    exact ⟨M, rfl, hM, ok, hB⟩
  subst hlen
  have hagg : ∃ cs, v1 = .agg cs ∧ cs.size = Tryz.prog.cellsOf 45 := by
    have hv1 := hval 1 45 v1 rfl rfl
    unfold Value.okWide at hv1
    rw [res_struct] at hv1
    exact ⟨_, hv1.choose_spec.1, hv1.choose_spec.2.1⟩
  obtain ⟨cs, rfl, hsz⟩ := hagg
  have hsz : cs.size = 19 := hsz.trans (by kernel_rfl)
  obtain ⟨F, b, bl, bc, G, w1, w2, w3⟩ : ∃ (F : Nat → Int) (b : Option Addr) (bl bc : Nat) (G : Nat → Nat → Int), (∀ (j : Nat) k, resKs[j]? = some k → cs[j]? = some (RX.cellV k (F j)) ∧ RX.cellWf k (F j)) ∧ cs[18]? = some (.slice b bl bc) ∧ RX.IsTab [some .u8] W b bl bc G := by
    obtain ⟨fuel, hf⟩ := h1
    obtain ⟨F, b, bl, bc, G, q1, q2, q3⟩ := RX.Sq.open_withB (i := 3) (n := 4) (m := 4) (ks := resKs) res_struct rfl (by kernel_rfl) rfl Tryz.underlying37 (by kernel_rfl) (by kernel_rfl) (by kernel_rfl) hf
    exact ⟨F, b, bl, bc, G, fun j k hk => ⟨by simpa [Value.cells] using (q1 j k hk).1, (q1 j k hk).2⟩, by simpa [Value.cells, resKs] using q2, q3⟩
  have e1 := res_cells cs hsz F (.slice b bl bc) w1 w2
  rw [MakeChecks.laidMetH_plain _ _ _ (by kernel_rfl)] at hL
  have hl0 : RX.Ln.Laid0 W W.heap.size := RX.Ln.laid0 (l := laid) hL (by simp [laid, Rows.scriptPrintsRow]) (by simp [laid, Rows.scriptPrintsRow]) (by simp [laid, Rows.scriptPrintsRow]) (by simp [laid, Rows.scriptPrintsRow]) hsh
  have lt : ∀ {t v d p}, DataW.Trod enc Tryz.prog W 0 (fun _ => true) true t v d p → ∀ x ∈ p, x.block < W.heap.size := fun k => by obtain ⟨m, hm⟩ := k; exact DataW.trod_lt m _ _ _ hm
  clear hA0 hval0
  have he : -9223372036854775808 ≤ F 1 ∧ F 1 ≤ 9223372036854775807 := RX.Sq.wf_i .i64 _ _ _ (w1 1 _ rfl).2 (by decide) (by decide)
  have hA16 : ∀ j, j < 16 → 0 ≤ F (j + 2) ∧ F (j + 2) ≤ 255 := by
    intro j hj
    have : resKs[j + 2]? = some (some .u8) := by
      show (List.replicate 16 (some IntKind.u8))[j]? = _
      rw [List.getElem?_replicate, if_pos hj]
    exact RX.Sq.wf_i .u8 _ 0 255 (w1 (j + 2) _ this).2 (by decide) (by decide)
  have wk := walk W hl0 a cap M hM ok hB (!(F 0 == 0)) (F 1) (fun j => F (j + 2)) ⟨.slice b bl bc, rfl⟩ _ he hA16 (RX.Sq.bv_of_tab w3)
  have e2 : RX.Sq.resV (!(F 0 == 0)) (F 1) (fun j => F (j + 2)) ⟨.slice b bl bc, rfl⟩ = .agg cs := by
    rw [e1]
    rfl
  rw [e2] at wk
  refine wk.mono fun e W' ⟨he, bel⟩ => ?_
  subst he
  exact ⟨_, rfl, _, _, _, [], _, [], hW', trodAll_mk1 (shut_bool Tryz.underlying4 _), (trodAll_cons_mk (Below.trod laidOut (by kernel_rfl) (of_decide_eq_true (by kernel_rfl)) h0 bel (lt h0)) (trodAll_cons_mk (Below.trod laidOut (by kernel_rfl) (of_decide_eq_true (by kernel_rfl)) h1 bel (lt h1)) trodAll_mk0)), rfl, bel.frame _, fun h => by cases h⟩

theorem over : Rows.scriptPrintsRow.holds Tryz.pinned (OpenSpec.ofChange Rows.scriptPrintsSpec) :=
  OpenClaim.holds_of_wide 4 Tryz.f4 rfl rfl rfl rfl rfl rfl rfl ⟨rfl, rfl, rfl, rfl, rfl⟩ rfl rfl rfl rfl rfl (by kernel_rfl) Tryz.func4 (by kernel_rfl)
    (of_decide_eq_true (by kernel_rfl)) (by unfold Func.isWrapper; first | (rw [if_pos (by decide +kernel)]; kernel_rfl) | (rw [if_neg (by decide +kernel)]; exact ⟨rfl, rfl⟩))
    (fun os started H enc _ => lifted os started H enc)

theorem proved : Rows.ScriptPrintsCardSaid :=
  Claim7.holds_tied_plain_at .later [] [.data, .data, .data, .data, .sentinel, .sentinel, .pinned] true (true, "5b2e0039f0a481d208a958c26286c5754110a027df63b187f3830b27fbafea20") true over (fun _ h => by cases h) (by kernel_rfl) (fun _ h => by cases h) scriptPrints_row_tie rfl ⟨rfl, rfl⟩ (by kernel_rfl) rfl
    (fun f fn hf hfn => by
      obtain rfl : f = 4 := Option.some.inj ((show Tryz.prog.funcNamed "hailer/hailerlaw32.ScriptPrints" = some 4 by kernel_rfl).symm.trans hf) |>.symm
      obtain rfl : fn = Tryz.f4 := (Option.some.inj (Tryz.func4.symm.trans hfn)).symm
      exact ⟨by kernel_rfl, fun j t ht => by
        rw [Tryz.params4] at ht
        have hm : t ∈ [23, 45] := by simpa using Array.mem_of_getElem? ht
        have hall : ([23, 45].all fun u => !Tryz.prog.wantsStandIn u) = true := by kernel_rfl
        exact (show Tryz.prog.wantsStandIn t = false by simpa using List.all_eq_true.1 hall t hm)⟩)
    (by kernel_rfl)
#print axioms proved
end Go.Proofs.YtgaabcinjbjbgaaGreatDoor.scriptPrints
