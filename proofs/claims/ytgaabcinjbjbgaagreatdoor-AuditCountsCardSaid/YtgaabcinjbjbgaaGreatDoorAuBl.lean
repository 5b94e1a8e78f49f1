/- strings.Builder of this program: copyCheck, WriteByte. -/
import Derived.Test.YtgaabcinjbjbgaaGreatDoorSb
import Derived.Test.YtgaabcinjbjbgaaGreatDoorAuCtx
namespace Go.RX.Sb
open Go.Shelf Go.RowKit Go.Proofs

theorem info93 : (Tryz.prog.info? 93).map (·.size) = some 2 := by kernel_rfl
theorem lies93 : liesAt Tryz.prog Tryz.prog.depth 93 (2 / Tryz.prog.cellsOf 93) 0 93 1 = true := by kernel_rfl
theorem infoByte : (Tryz.prog.info? 5).map (fun i => (i.zero, i.size, i.bytes)) = some (some (.int .u8 0), 1, 1) := by kernel_rfl

set_option maxHeartbeats 1000000 in
set_option maxRecDepth 100000 in
theorem copyCheck_used (b : Nat) (w : World) (h0 : w.cell? ⟨b, 0, none⟩ = some (.pointer (some ⟨b, 0, none⟩))) :
    Calls Tryz.prog 73 #[.pointer (some ⟨b, 0, none⟩)] w fun e w' => e = .returned (.tuple #[]) ∧ w' = w := by
  obtain ⟨j, hj, _⟩ := Option.map_eq_some_iff.1 info93
  go_enter Tryz.func73, Tryz.ntmps73
  go_wp2
  rw [Lib.run_neq_ptr_same w _ Tryz.underlying91 hj]
  go_wp2
  go_end0
  exact ⟨rfl, rfl⟩

set_option maxHeartbeats 1000000 in
set_option maxRecDepth 100000 in
theorem copyCheck_fresh (b : Nat) (w : World) (h0 : w.cell? ⟨b, 0, none⟩ = some (.pointer none)) (hsh : w.shape? b = some (93, 2)) (hfz : w.frozen? ⟨b, 0, none⟩ = false) :
    Calls Tryz.prog 73 #[.pointer (some ⟨b, 0, none⟩)] w fun e w' => e = .returned (.tuple #[]) ∧ w' = w.setCell ⟨b, 0, none⟩ (.pointer (some ⟨b, 0, none⟩)) := by
  obtain ⟨j, hj, hjs⟩ := Option.map_eq_some_iff.1 info93
  go_enter Tryz.func73, Tryz.ntmps73
  go_wp2
  rw [Lib.run_to_unsafe w ⟨b, 0, none⟩ Tryz.underlying91 Tryz.underlying173 hj (by rw [hjs]; decide) hsh (Nat.zero_lt_succ 1)]
  simp only [Result.andThen]
  rw [Oper.upon_value]
  go_wp2
  rw [run_callFunc_extern Tryz.func95 (by kernel_rfl) (by kernel_rfl) (by kernel_rfl) (e := Extern.AbiNoEscape.same) (by kernel_rfl)]
  rw [Lib.run_noEscape]
  simp only [Result.andThen]
  rw [Oper.upon_value]
  go_wp2
  rw [Lib.run_from_unsafe w ⟨b, 0, none⟩ Tryz.underlying173 Tryz.underlying91 hj hsh lies93]
  simp only [Result.andThen]
  rw [Oper.upon_value]
  go_wp2
  go_end0
  exact ⟨rfl, rfl⟩

set_option maxHeartbeats 2000000 in
set_option maxRecDepth 100000 in
theorem writeByte (b : Nat) (bs : List Value) (c : Int) (w : World) (S : Nat → Prop) (h : (bldHP b 93 5 bs).p w S) (hlen : bs.length + 1 ≤ 140737488355328) :
    Calls Tryz.prog 53 #[.pointer (some ⟨b, 0, none⟩), .int .u8 c] w fun e w' => e = .returned .nilIface ∧ ∃ S', (bldHP b 93 5 (bs ++ [.int .u8 c])).p w' S' ∧ Kept w w' S S' := by
  obtain ⟨pv, v, hb0, hpv, hown0, hne, hS⟩ := h
  have hlt0 : b < w.heap.size := by
    rcases Nat.lt_or_ge b w.heap.size with h' | h'
    · exact h'
    · simp [Array.getElem?_eq_none h'] at hb0
  obtain ⟨i0, hi, hz0, hz1, hz2⟩ := info_parts infoByte
  have hcc : Calls Tryz.prog 73 #[.pointer (some ⟨b, 0, none⟩)] w fun e w1 => e = .returned (.tuple #[]) ∧ (w1.heap[b]? = some (.cells #[.pointer (some ⟨b, 0, none⟩), v] 93 (0, 0)) ∧ Same w w1 ∧ w1.heap.size ≤ w.heap.size ∧ ∀ k, k ≠ b → w1.heap[k]? = w.heap[k]?) := by
    rcases hpv with rfl | rfl
    · refine (copyCheck_fresh b w (by rw [Lib.cell_of_heap hb0]; rfl) (by simp [World.shape?, hb0]) (by simp [World.frozen?, hb0])).mono ?_
      rintro e w1 ⟨rfl, rfl⟩
      exact ⟨rfl, by simp [World.setCell, Array.getElem?_modify, hb0], setCell_same _ _ _, Nat.le_of_eq (setCell_size _ _ _), fun k hk => Below.heap_setCell _ _ _ _ (fun e => hk (by simp [e]))⟩
    · refine (copyCheck_used b w (by rw [Lib.cell_of_heap hb0]; rfl)).mono ?_
      rintro e w1 ⟨rfl, rfl⟩
      exact ⟨rfl, hb0, Same.refl _, Nat.le_refl _, fun _ _ => rfl⟩
  go_enter Tryz.func53, Tryz.ntmps53
  go_wp2_with (go_at_call 73; refine hcc.mono ?_)
  rintro e w1 ⟨rfl, hbk, hsm1, hsz1, hk1⟩
  have hsz2 := hsm1.size
  have hown : w1.ownsRow 0 5 1 v bs.length bs := by
    refine ⟨hown0.1, ?_⟩
    rcases hown0.2 with hn | ⟨g, cap, cur, rfl, hB, hg, r⟩
    · exact .inl hn
    · exact .inr ⟨g, cap, cur, rfl, hB, (hk1 g (fun e => hne (by simp [Value.ownBlock, e]))).trans hg, r⟩
  have c0 : w1.cell? ⟨b, 0, none⟩ = some (.pointer (some ⟨b, 0, none⟩)) := by rw [Lib.cell_of_heap hbk]; rfl
  have c1 : w1.cell? ⟨b, 1, none⟩ = some v := by rw [Lib.cell_of_heap hbk]; rfl
  go_wp2_with (at_builtin; go_loud (refine wpList_append_row rfl _ _ 37 rfl 5 i0 (.int .u8 0) 1 1 Tryz.underlying37 hi hz0 hz1 hz2 rfl (by decide) _ _ _ rfl (hown.alloc _) ⟨w1.heap.size, 0, none⟩ 1 1 [.int .u8 c] rfl rfl ?c1 ?c2 ?c3 ?c4 ?_))
  case c1 =>
    intro j u hj
    match j, hj with
    | 0, hj => simp at hj; subst hj; simp [Addr.add]
  case c2 => intro u hu; simp at hu; subst hu; rfl
  case c3 => unfold maxLen; omega
  case c4 => omega
  intro v' w2 hown' hgrow hblk
  have hlt : b < w1.heap.size := by omega
  have hb2 : w2.heap[b]? = some (.cells #[.pointer (some ⟨b, 0, none⟩), v] 93 (0, 0)) := by
    rw [hgrow.block b (by simp; omega) (fun e => hne e.symm), Lib.alloc_old w1 _ b hlt]
    exact hbk
  have d0 : w2.cell? ⟨b, 0, none⟩ = some (.pointer (some ⟨b, 0, none⟩)) := by rw [Lib.cell_of_heap hb2]; rfl
  have d1 : w2.cell? ⟨b, 1, none⟩ = some v := by rw [Lib.cell_of_heap hb2]; rfl
  have f1 : w2.frozen? ⟨b, 1, none⟩ = false := Lib.frozen_of_heap hb2 1
  obtain ⟨g, cap, rfl⟩ : ∃ g cap, v' = .slice (some ⟨g, 0, none⟩) (bs.length + 1) cap := by
    rcases hown'.2 with ⟨_, h0⟩ | ⟨g, cap, cur, hv, _⟩
    · omega
    · exact ⟨g, cap, hv⟩
  go_wp2
  go_ret
  have hgs : w.heap.size ≤ w2.heap.size := by have := hgrow.size; simp at this; omega
  have hput := Lib.BuilderAt.put (T := 93) (e := 5) (Nat.zero_le b) hb2 (bs' := bs ++ [.int .u8 c]) (by simpa using hown') (by decide)
  obtain ⟨_, v2, q1, q2, q3⟩ := hput
  have hv2 : v2 = .slice (some ⟨g, 0, none⟩) (bs.length + 1) cap := by
    have : (w2.setCell ⟨b, 1, none⟩ (.slice (some ⟨g, 0, none⟩) (bs.length + 1) cap)).heap[b]? = some (.cells #[.pointer (some ⟨b, 0, none⟩), .slice (some ⟨g, 0, none⟩) (bs.length + 1) cap] 93 (0, 0)) := by
      simp [World.setCell, Array.getElem?_modify, hb2]
    rw [this] at q1
    simp at q1
    exact q1.symm
  subst hv2
  refine ⟨rfl, fun k => k = b ∨ some g = some k, ⟨_, _, q1, .inr rfl, q2, q3, fun k => by simp [Value.ownBlock]⟩, ⟨?_, ?_, ?_⟩⟩
  · exact ⟨hgrow.os.trans hsm1.os, hgrow.tape.trans hsm1.tape, hgrow.output.trans hsm1.output, by rw [setCell_size]; exact hgs⟩
  · intro k hk hnS
    have hnS := mt (hS k).2 hnS
    rw [Below.heap_setCell _ _ _ _ (fun e => hnS (.inl e)), hgrow.block k (by simp; omega) (fun e => hnS (.inr e.symm)), Lib.alloc_old w1 _ k (by omega), hk1 k (fun e => hnS (.inl e))]
  · intro k hk
    rcases hk with rfl | hk
    · exact .inl ((hS _).2 (.inl rfl))
    · cases hk
      rcases hblk with hb' | hb'
      · exact .inl ((hS _).2 (.inr (by rw [← hb']; rfl)))
      · right
        simp only [Value.ownBlock, Option.some.injEq] at hb'
        try simp at hb'
        rw [setCell_size]
        refine ⟨by omega, ?_⟩
        rcases hown'.2 with ⟨hc, _⟩ | ⟨g', cap', cur, hv', _, hg, _⟩
        · cases hc
        · cases hv'
          rcases Nat.lt_or_ge g w2.heap.size with h' | h'
          · exact h'
          · simp [Array.getElem?_eq_none h'] at hg

end Go.RX.Sb
