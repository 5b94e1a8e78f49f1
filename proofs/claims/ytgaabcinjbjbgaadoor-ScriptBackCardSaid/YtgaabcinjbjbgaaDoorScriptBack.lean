/- The law hailerlaw32.ScriptBack holds: whatever moves and whatever text there are, the call returns true and writes nothing that was there. Conditions: none. -/
import Derived.Test.YtgaabcinjbjbgaaDoorTie
import Derived.Test.YtgaabcinjbjbgaaDoorCards
import Derived.Test.YtgaabcinjbjbgaaDoorM36
import Derived.Test.YtgaabcinjbjbgaaDoorM49
import Derived.WalkKit
import Derived.ProofKit
import Derived.OpenShut
import Derived.ChangeOld
import Derived.ChangeMaps5
import Derived.Below
import Derived.Lay
import Derived.LaidOnce
import Derived.SevenTiedAt

namespace Go.Proofs.YtgaabcinjbjbgaaDoor.scriptBack
open Go.ChangeShapes Go.WideShapes Go.ChangeAt Go.RowKit Go.Proofs
theorem own : ownKnob Tryd.prog.godebug = none := by kernel_rfl
theorem laidOut : laidOutB Tryd.prog = true := by kernel_rfl
theorem walk (W : World) (hL : RX.Ln.Laid0 W W.heap.size) (a : Option Addr) (cap : Nat) (M : RX.Sq.Mv) (hM : RX.Sq.IsMv W a cap M) (ok : RX.Sq.MvOk W.heap.size W M) (hB : ∀ i, i < M.n → (M.B i).length ≤ maxLen) (s : ByteArray) :
    Calls Tryd.prog 3 #[.slice a M.n cap, .string s] W fun e w' => e = .returned (.bool true) ∧ Below W.heap.size W w' := by
  have hcap := hM.cap
  have hle := hM.le
  have hmax : maxLen ≤ 9223372036854775807 := by unfold maxLen; decide
  have law := RX.Bj.law_meets hL ⟨.slice a M.n cap, rfl⟩ ok (by omega) (fun i hi => Nat.le_trans (hB i hi) hmax) s.data.toList
  obtain ⟨mp, mlt⟩ := RX.Sq.mv_p hM
  have e1 : RX.Ln.strV s.data.toList = .string s := by
    unfold RX.Ln.strV
    congr 1
  rw [e1] at law
  have law1 : RX.Meets Tryd.prog 3 [.slice a M.n cap, .string s] [RX.keptHP W.heap.size W, RX.Sq.sliM ⟨.slice a M.n cap, rfl⟩ M] fun x _ => x = .bool true := by
    intro w Fs ho
    have h1 : RX.Owns ([RX.keptHP W.heap.size W, RX.Sq.sliM ⟨.slice a M.n cap, rfl⟩ M, RX.Su.setHP [], RX.Su.setHP [], RX.Su.setHP [], RX.Su.setHP []] ++ Fs) w :=
      RX.Tr.no_set _ w Fs (RX.Tr.no_set _ w Fs (RX.Tr.no_set _ w Fs (RX.Tr.no_set _ w Fs ho)))
    exact law w Fs (RX.Ent.perm (List.Perm.cons _ (List.perm_append_comm (l₁ := [RX.Sq.sliM ⟨.slice a M.n cap, rfl⟩ M]) (l₂ := [RX.Su.setHP [], RX.Su.setHP [], RX.Su.setHP [], RX.Su.setHP []]))) w Fs h1)
  have := RX.Meets.lookIn (L := [RX.keptHP W.heap.size W, RX.Sq.sliM ⟨.slice a M.n cap, rfl⟩ M]) (by
    intro x hx
    simp only [List.mem_cons, List.mem_nil_iff, or_false] at hx
    rcases hx with rfl | rfl <;> rfl) law1 [RX.keptHP W.heap.size W] (by
    intro w Fs ⟨S, hS⟩ x hx
    obtain ⟨hp, hlt⟩ := hS.at_ 0 (RX.keptHP W.heap.size W) rfl
    simp only [List.mem_cons, List.mem_nil_iff, or_false] at hx
    rcases hx with rfl | rfl
    · exact ⟨_, hp, hlt⟩
    · exact ⟨_, (RX.Sq.sliM ⟨.slice a M.n cap, rfl⟩ M).stable W w _ mp (fun k hk => hp.2 k (mlt k hk)), fun k hk => hlt k ((hp.1 k).2 (mlt k hk))⟩)
  exact (this.post (q := fun v _ => v = .bool true) fun v hs h => ⟨hs, RX.Ent.refl _, h.1⟩).law W (RX.Owns.dup rfl (RX.owns_kept W))
noncomputable def laid : List (String × DataW Unit) := Rows.scriptBackRow.laid
set_option maxRecDepth 100000 in
theorem lifted (os : Os) (started : os.Started) (H : Type) (enc : TypeId × Value → H) :
    ReturnsInHanded {} Tryd.checked os 3 .any (fun w args => (Rows.scriptBackSpec.pre enc Tryd.prog Tryd.f3 [] false w args ∧ laidMetH Tryd.prog laid w) ∧ sizedMet enc Tryd.prog Tryd.f3 (OpenSpec.ofChange Rows.scriptBackSpec) false w args)
      (Rows.scriptBackSpec.post enc Tryd.prog Tryd.f3 false true false false) := by
  refine RX.returnsInHanded_shapedX (C := Tryd.checked) (X := fun w _ => laidMetH Tryd.prog laid w) (fun _ _ _ hh h => h.of_heap hh) own started (by kernel_rfl) Tryd.func3
    (ChangeSpec.witness_shaped (enc := enc) (C := Tryd.checked) (os := os) (X := fun w _ => laidMetH Tryd.prog laid w) false (World.laidAll Tryd.prog os laid) #[.slice none 0 0, .string ⟨#[]⟩] 8 (World.laidAll_os _ _ _)
      (World.shaped_of_ZipB (by kernel_rfl) (by kernel_rfl)) (by kernel_rfl) (by kernel_rfl) (by kernel_rfl)
      (by rw [MakeChecks.laidMetH_plain _ _ _ (by kernel_rfl)]; exact laidMet_laidAll _ (by kernel_rfl) (by kernel_rfl))) ?_
  intro W base args ds gs before hval0 hW _ _ hL hsh _
  have hval : ∀ (j : Nat) t v, Tryd.f3.params[j]? = some t → args[j]? = some v → Value.okWide Tryd.prog W .any base t v := hval0
  have hW' := hW
  obtain ⟨p, q, hA0, hV, rfl, _, _⟩ := hW
  have hA : DataW.TrodAll enc Tryd.prog W 0 (fun _ => true) true Tryd.f3.params.toList args.toList ds p := hA0
  rw [Tryd.params3] at hA hval
  obtain ⟨v0, vs0, d0, ds0, p0, q0, hargs, rfl, rfl, h0, r0⟩ := trodAll_cons hA
  obtain ⟨v1, vs1, d1, ds1, p1, q1, rfl, rfl, rfl, h1, r1⟩ := trodAll_cons r0
  obtain ⟨rfl, rfl, rfl⟩ := trodAll_nil r1
  obtain rfl : args = #[v0, v1] := by cases args; simp_all
  obtain ⟨rfl, rfl⟩ := trodVars_none hV
  obtain ⟨a, len, cap, rfl⟩ := okWide_slice Tryd.underlying22 (hval 0 22 v0 rfl rfl)
  obtain ⟨M, hlen, hM, ok, hB⟩ : ∃ M : RX.Sq.Mv, len = M.n ∧ RX.Sq.IsMv W a cap M ∧ RX.Sq.MvOk W.heap.size W M ∧ ∀ i, i < M.n → (M.B i).length ≤ maxLen := by
    obtain ⟨fuel, hf⟩ := h0
    obtain ⟨a', cap', M, hcs, hM, ok, hB⟩ := RX.Sq.open_mv hf
    simp [Value.cells] at hcs
    obtain ⟨rfl, rfl, rfl⟩ := hcs
    exact ⟨M, rfl, hM, ok, hB⟩
  subst hlen
  have h1' := h1
  obtain ⟨s, rfl, rfl, rfl, _⟩ := ChangeMaps.open_string Tryd.underlying9 (hval 1 9 v1 rfl rfl) h1
  rw [MakeChecks.laidMetH_plain _ _ _ (by kernel_rfl)] at hL
  have hl0 : RX.Ln.Laid0 W W.heap.size := RX.Ln.laid0 (l := laid) hL (by simp [laid, Rows.scriptBackRow]) (by simp [laid, Rows.scriptBackRow]) (by simp [laid, Rows.scriptBackRow]) (by simp [laid, Rows.scriptBackRow]) hsh
  have lt : ∀ {t v d p}, DataW.Trod enc Tryd.prog W 0 (fun _ => true) true t v d p → ∀ x ∈ p, x.block < W.heap.size := fun k => by obtain ⟨m, hm⟩ := k; exact DataW.trod_lt m _ _ _ hm
  clear hA0 hval0
  have wk := walk W hl0 a cap M hM ok hB s
  refine wk.mono fun e W' ⟨he, bel⟩ => ?_
  subst he
  exact ⟨_, rfl, _, _, _, [], _, [], hW', trodAll_mk1 (shut_bool Tryd.underlying4 _), (trodAll_cons_mk (Below.trod laidOut (by kernel_rfl) (of_decide_eq_true (by kernel_rfl)) h0 bel (lt h0)) (trodAll_cons_mk (Below.trod laidOut (by kernel_rfl) (of_decide_eq_true (by kernel_rfl)) h1' bel (lt h1')) trodAll_mk0)), rfl, bel.frame _, fun h => by cases h⟩
theorem over : Rows.scriptBackRow.holds Tryd.pinned (OpenSpec.ofChange Rows.scriptBackSpec) :=
  OpenClaim.holds_of_wide 3 Tryd.f3 rfl rfl rfl rfl rfl rfl rfl ⟨rfl, rfl, rfl, rfl, rfl⟩ rfl rfl rfl rfl rfl (by kernel_rfl) Tryd.func3 (by kernel_rfl)
    (of_decide_eq_true (by kernel_rfl)) (by unfold Func.isWrapper; first | (rw [if_pos (by decide +kernel)]; kernel_rfl) | (rw [if_neg (by decide +kernel)]; exact ⟨rfl, rfl⟩))
    (fun os started H enc _ => lifted os started H enc)
theorem proved : Rows.ScriptBackCardSaid :=
  Claim7.holds_tied_plain_at .later [] [.data, .data, .data, .data, .sentinel, .sentinel, .pinned] true (true, "d8a861adeb56a317ade63d69e472c2fb82a8d31f3f019f6a5a5f971c991ed913") true over (fun _ h => by cases h) (by kernel_rfl) (fun _ h => by cases h) scriptBack_row_tie rfl ⟨rfl, rfl⟩ (by kernel_rfl) rfl
    (fun f fn hf hfn => by
      obtain rfl : f = 3 := Option.some.inj ((show Tryd.prog.funcNamed "hailer/hailerlaw32.ScriptBack" = some 3 by kernel_rfl).symm.trans hf) |>.symm
      obtain rfl : fn = Tryd.f3 := (Option.some.inj (Tryd.func3.symm.trans hfn)).symm
      exact ⟨by kernel_rfl, fun j t ht => by
        rw [Tryd.params3] at ht
        have hm : t ∈ [22, 9] := by simpa using Array.mem_of_getElem? ht
        have hall : ([22, 9].all fun u => !Tryd.prog.wantsStandIn u) = true := by kernel_rfl
        exact (show Tryd.prog.wantsStandIn t = false by simpa using List.all_eq_true.1 hall t hm)⟩)
    (by kernel_rfl)
#print axioms proved
end Go.Proofs.YtgaabcinjbjbgaaDoor.scriptBack
