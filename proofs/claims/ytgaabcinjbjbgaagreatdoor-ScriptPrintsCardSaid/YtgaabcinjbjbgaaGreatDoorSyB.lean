/- strings.Builder of this program: WriteString, Len. -/
import Derived.Test.YtgaabcinjbjbgaaGreatDoorRyK
import Derived.Shelf.Strings.Builder1
import Derived.Maps.AppendAt
import Derived.Test.YtgaabcinjbjbgaaGreatDoorAuCtx
import Derived.Lib.AppendStr

namespace Go.RX.Sb
open Go.Shelf Go.RowKit Go.Proofs
variable {P : Program} {ρ : Ren}

theorem wpList_append_row {w : World} {ops : Array Oper} {rest : List Oper} {o : Oper} {a : Act} {Q : Exit → Act → World → Prop} (hgd : o.guard = none) (s x : Operand) (t : TypeId)
    (ho : o.op = .call { callee := .builtin .append, args := #[s, x], argTypes := #[t, t] })
    (e : TypeId) (i : TypeInfo) (z : Value) (size bytes : Nat) (ht : P.underlying t = some (.slice e)) (hi : P.info? e = some i) (hz : i.zero = some z)
    (hsize : i.size = size) (hby : i.bytes = bytes) (hzs : z.cells.size = size) (hsz : 0 < size)
    (v : Value) (n : Nat) (xs : List Value) (hs : a.eval s = v) (hown : w.ownsRow 0 e size v n xs)
    (ad : Addr) (m c : Nat) (news : List Value) (hx : a.eval x = .slice (some ad) m c) (hl : news.length = m * size) (hnews : ∀ j u, news[j]? = some u → w.cell? (ad.add j) = some u) (h1 : ∀ u ∈ news, u.oneCell' = true)
    (h63 : n + m ≤ maxLen) (hbytes : (n + m) * bytes ≤ 140737488355328)
    (h : ∀ v' w', w'.ownsRow 0 e size v' (n + m) (xs ++ news) → w.grownBy w' v.ownBlock → (v'.ownBlock = v.ownBlock ∨ v'.ownBlock = some w.heap.size) → wpList P ops Q rest (a.put o.dst v') w') : wpList P ops Q (o :: rest) a w := by
  refine wpList_plain hgd fun K hK => ?_
  obtain ⟨v', w', hr, h2, h3, _, h5⟩ := run_append_own_at (P := P) w 0 t o.type e i z size bytes ht hi hz hsize hby hzs hsz v n xs hown ad m c news hl hnews h1 h63 hbytes (Nat.zero_le _)
  unfold Oper.wp execOp
  simp only [ho, resolve, invoke, builtin, Sem.run_bind, Sem.run_pure, Result.andThen_ok, List.map_toArray, List.map_cons, List.map_nil, hs, hx, hr]
  exact hK _ _ (h v' w' h2 h3 h5)

/-- What a call does to a builder and to nothing else. -/
structure Kept (w w' : World) (S S' : Nat → Prop) : Prop where
  same : Same w w'
  old : ∀ k, k < w.heap.size → ¬ S k → w'.heap[k]? = w.heap[k]?
  sub : ∀ k, S' k → S k ∨ (w.heap.size ≤ k ∧ k < w'.heap.size)

theorem setCell_same (w : World) (p : Addr) (v : Value) : Same w (w.setCell p v) := ⟨rfl, rfl, rfl, by simp [World.setCell]⟩
theorem setCell_size (w : World) (p : Addr) (v : Value) : (w.setCell p v).heap.size = w.heap.size := by simp [World.setCell]

theorem freeze_other (w : World) (a : Addr) (n : Nat) (k : Nat) (hk : k ≠ a.block) : (w.freeze a n).heap[k]? = w.heap[k]? := by
  unfold World.freeze
  split
  · rfl
  · simp [Array.getElem?_modify, Ne.symm hk]
theorem freeze_same (w : World) (a : Addr) (n : Nat) : Same w (w.freeze a n) := by
  unfold World.freeze
  split
  · exact Same.refl _
  · exact ⟨rfl, rfl, rfl, by simp⟩
theorem drew_same (w : World) : Same w w.drew := ⟨rfl, rfl, rfl, Nat.le_refl _⟩

set_option maxHeartbeats 1000000 in
set_option maxRecDepth 100000 in
theorem string (L : Lays.n169 P ρ) (X : Builder.Extra P ρ) (b : Nat) (l : List UInt8) (w : World) (S : Nat → Prop) (h : (bldHP b (ρ.t 72) (ρ.t 5) (Lib.byteCells l)).p w S) (h0 : l ≠ []) :
    Calls P (ρ.f 169) #[.pointer (some ⟨b, 0, none⟩)] w fun e w' => e = .returned (.string ⟨l.toArray⟩) ∧ Same w w' ∧ ∀ k, k < w.heap.size → ¬ S k → w'.heap[k]? = w.heap[k]? := by
  obtain ⟨p, v, hbk, _, hown, hne, hS⟩ := h
  have hl0 : l.length ≠ 0 := by simpa using h0
  rw [Lib.byteCells_length] at hown
  obtain ⟨g, cap, cur, rfl, hbg, hg, hnc, hcm, hcs, htake⟩ : ∃ g cap cur, v = .slice (some ⟨g, 0, none⟩) l.length cap ∧ 0 ≤ g ∧ w.heap[g]? = some (.cells cur (ρ.t 5) (0, 0)) ∧ l.length ≤ cap ∧ cap ≤ maxLen ∧ cur.size = cap * 1 ∧ cur.toList.take (l.length * 1) = Lib.byteCells l := by
    rcases hown.2 with ⟨_, hz⟩ | ⟨g, cap, cur, hv, r⟩
    · exact absurd hz hl0
    · exact ⟨g, cap, cur, hv, r⟩
  have c1 : w.drew.cell? ⟨b, 1, none⟩ = some (.slice (some ⟨g, 0, none⟩) l.length cap) := by
    have : w.drew.heap[b]? = some (.cells #[p, .slice (some ⟨g, 0, none⟩) l.length cap] (ρ.t 72) (0, 0)) := hbk
    rw [Lib.cell_of_heap this]; rfl
  have hSD : (Builtin.unsafeSliceData_ #[(ρ.t 37)] (ρ.t 127) #[.slice (some ⟨g, 0, none⟩) l.length cap]).run P w.drew = .ok (.pointer (some ⟨g, 0, none⟩)) w.drew :=
    Lib.run_unsafeSliceData_row _ _ _ _ _ _ (by omega)
  have hUS : (Builtin.unsafeString_ #[(ρ.t 127), (ρ.t 3)] (ρ.t 9) #[.pointer (some ⟨g, 0, none⟩), .int .i64 l.length]).run P w.drew = .ok (.string ⟨l.toArray⟩) (w.drew.freeze ⟨g, 0, none⟩ l.length) := by
    refine Lib.run_unsafeString_row w.drew (ρ.t 127) (ρ.t 3) (ρ.t 9) (ρ.t 5) L.t127 X.cellsByte g cur.size (by have hg' : w.drew.heap[g]? = some (.cells cur (ρ.t 5) (0, 0)) := hg; simp [World.shape?, hg']) l h0 (by omega) (by unfold maxLen at hcm; omega) ?_
    intro j x hx
    have := hown.cells (g := g) rfl j (.int .u8 x.toNat) (by simp [Lib.byteCells, hx])
    exact this
  have mixed := L.mixed
  have t72 := L.t72; have a72 := L.a72; have z72 := L.z72; have v72 := L.v72; have u72 := run_underlying L.t72
  have t70 := L.t70; have a70 := L.a70; have z70 := L.z70; have v70 := L.v70; have u70 := run_underlying L.t70
  have t37 := L.t37; have a37 := L.a37; have z37 := L.z37; have v37 := L.v37; have u37 := run_underlying L.t37
  have t127 := L.t127; have a127 := L.a127; have z127 := L.z127; have v127 := L.v127; have u127 := run_underlying L.t127
  have t3 := L.t3; have a3 := L.a3; have z3 := L.z3; have v3 := L.v3; have u3 := run_underlying L.t3
  have t9 := L.t9; have a9 := L.a9; have z9 := L.z9; have v9 := L.v9; have u9 := run_underlying L.t9
  have t5 := X.t5; have a5 := X.a5; have z5 := X.z5; have v5 := X.v5; have u5 := run_underlying X.t5
  have fin : Same w (w.drew.freeze ⟨g, 0, none⟩ l.length) ∧ ∀ k, k < w.heap.size → ¬ S k → (w.drew.freeze ⟨g, 0, none⟩ l.length).heap[k]? = w.heap[k]? :=
    ⟨(drew_same w).trans (freeze_same _ _ _), fun k _ hk => (freeze_other _ _ _ k (fun e => hk ((hS k).2 (.inr (by rw [e]; rfl))))).trans rfl⟩
  go_enter L.f169, Body.n169_ntmps ρ
  go_wp2
  go_region_o
  all_goals (go_wp2; go_ret; exact ⟨rfl, fin⟩)
end Go.RX.Sb

namespace Go.RX.Sb
open Go.Shelf Go.RowKit Go.Proofs

theorem info93 : (Tryz.prog.info? 93).map (·.size) = some 2 := by kernel_rfl
theorem lies93 : liesAt Tryz.prog Tryz.prog.depth 93 (2 / Tryz.prog.cellsOf 93) 0 93 1 = true := by kernel_rfl
theorem infoByte : (Tryz.prog.info? 5).map (fun i => (i.zero, i.size, i.bytes)) = some (some (.int .u8 0), 1, 1) := by kernel_rfl

set_option maxHeartbeats 1000000 in
set_option maxRecDepth 100000 in
theorem copyCheck_used (b : Nat) (w : World) (h0 : w.cell? ⟨b, 0, none⟩ = some (.pointer (some ⟨b, 0, none⟩))) :
    Calls Tryz.prog 73 #[.pointer (some ⟨b, 0, none⟩)] w fun e w' => e = .returned (.tuple #[]) ∧ w' = w := by
  obtain ⟨j, hj, _⟩ := Option.map_eq_some_iff.1 info93
  go_enter Tryz.func73, Tryz.ntmps73
  go_wp2
  rw [Lib.run_neq_ptr_same w _ Tryz.underlying91 hj]
  go_wp2
  go_end0
  exact ⟨rfl, rfl⟩

set_option maxHeartbeats 1000000 in
set_option maxRecDepth 100000 in
theorem copyCheck_fresh (b : Nat) (w : World) (h0 : w.cell? ⟨b, 0, none⟩ = some (.pointer none)) (hsh : w.shape? b = some (93, 2)) (hfz : w.frozen? ⟨b, 0, none⟩ = false) :
    Calls Tryz.prog 73 #[.pointer (some ⟨b, 0, none⟩)] w fun e w' => e = .returned (.tuple #[]) ∧ w' = w.setCell ⟨b, 0, none⟩ (.pointer (some ⟨b, 0, none⟩)) := by
  obtain ⟨j, hj, hjs⟩ := Option.map_eq_some_iff.1 info93
  go_enter Tryz.func73, Tryz.ntmps73
  go_wp2
  rw [Lib.run_to_unsafe w ⟨b, 0, none⟩ Tryz.underlying91 Tryz.underlying173 hj (by rw [hjs]; decide) hsh (Nat.zero_lt_succ 1)]
  simp only [Result.andThen]
  rw [Oper.upon_value]
  go_wp2
  rw [run_callFunc_extern Tryz.func95 (by kernel_rfl) (by kernel_rfl) (by kernel_rfl) (e := Extern.AbiNoEscape.same) (by kernel_rfl)]
  rw [Lib.run_noEscape]
  simp only [Result.andThen]
  rw [Oper.upon_value]
  go_wp2
  rw [Lib.run_from_unsafe w ⟨b, 0, none⟩ Tryz.underlying173 Tryz.underlying91 hj hsh lies93]
  simp only [Result.andThen]
  rw [Oper.upon_value]
  go_wp2
  go_end0
  exact ⟨rfl, rfl⟩

set_option maxHeartbeats 2000000 in
set_option maxRecDepth 100000 in
theorem writeByte (b : Nat) (bs : List Value) (c : Int) (w : World) (S : Nat → Prop) (h : (bldHP b 93 5 bs).p w S) (hlen : bs.length + 1 ≤ 140737488355328) :
    Calls Tryz.prog 53 #[.pointer (some ⟨b, 0, none⟩), .int .u8 c] w fun e w' => e = .returned .nilIface ∧ ∃ S', (bldHP b 93 5 (bs ++ [.int .u8 c])).p w' S' ∧ Kept w w' S S' := by
  obtain ⟨pv, v, hb0, hpv, hown0, hne, hS⟩ := h
  have hlt0 : b < w.heap.size := by
    rcases Nat.lt_or_ge b w.heap.size with h' | h'
    · exact h'
    · simp [Array.getElem?_eq_none h'] at hb0
  obtain ⟨i0, hi, hz0, hz1, hz2⟩ := info_parts infoByte
  have hcc : Calls Tryz.prog 73 #[.pointer (some ⟨b, 0, none⟩)] w fun e w1 => e = .returned (.tuple #[]) ∧ (w1.heap[b]? = some (.cells #[.pointer (some ⟨b, 0, none⟩), v] 93 (0, 0)) ∧ Same w w1 ∧ w1.heap.size ≤ w.heap.size ∧ ∀ k, k ≠ b → w1.heap[k]? = w.heap[k]?) := by
    rcases hpv with rfl | rfl
    · refine (copyCheck_fresh b w (by rw [Lib.cell_of_heap hb0]; rfl) (by simp [World.shape?, hb0]) (by simp [World.frozen?, hb0])).mono ?_
      rintro e w1 ⟨rfl, rfl⟩
      exact ⟨rfl, by simp [World.setCell, Array.getElem?_modify, hb0], setCell_same _ _ _, Nat.le_of_eq (setCell_size _ _ _), fun k hk => Below.heap_setCell _ _ _ _ (fun e => hk (by simp [e]))⟩
    · refine (copyCheck_used b w (by rw [Lib.cell_of_heap hb0]; rfl)).mono ?_
      rintro e w1 ⟨rfl, rfl⟩
      exact ⟨rfl, hb0, Same.refl _, Nat.le_refl _, fun _ _ => rfl⟩
  go_enter Tryz.func53, Tryz.ntmps53
  go_wp2_with (go_at_call 73; refine hcc.mono ?_)
  rintro e w1 ⟨rfl, hbk, hsm1, hsz1, hk1⟩
  have hsz2 := hsm1.size
  have hown : w1.ownsRow 0 5 1 v bs.length bs := by
    refine ⟨hown0.1, ?_⟩
    rcases hown0.2 with hn | ⟨g, cap, cur, rfl, hB, hg, r⟩
    · exact .inl hn
    · exact .inr ⟨g, cap, cur, rfl, hB, (hk1 g (fun e => hne (by simp [Value.ownBlock, e]))).trans hg, r⟩
  have c0 : w1.cell? ⟨b, 0, none⟩ = some (.pointer (some ⟨b, 0, none⟩)) := by rw [Lib.cell_of_heap hbk]; rfl
  have c1 : w1.cell? ⟨b, 1, none⟩ = some v := by rw [Lib.cell_of_heap hbk]; rfl
  go_wp2_with (at_builtin; go_loud (refine wpList_append_row rfl _ _ 37 rfl 5 i0 (.int .u8 0) 1 1 Tryz.underlying37 hi hz0 hz1 hz2 rfl (by decide) _ _ _ rfl (hown.alloc _) ⟨w1.heap.size, 0, none⟩ 1 1 [.int .u8 c] rfl rfl ?c1 ?c2 ?c3 ?c4 ?_))
  case c1 =>
    intro j u hj
    match j, hj with
    | 0, hj => simp at hj; subst hj; simp [Addr.add]
  case c2 => intro u hu; simp at hu; subst hu; rfl
  case c3 => unfold maxLen; omega
  case c4 => omega
  intro v' w2 hown' hgrow hblk
  have hlt : b < w1.heap.size := by omega
  have hb2 : w2.heap[b]? = some (.cells #[.pointer (some ⟨b, 0, none⟩), v] 93 (0, 0)) := by
    rw [hgrow.block b (by simp; omega) (fun e => hne e.symm), Lib.alloc_old w1 _ b hlt]
    exact hbk
  have d0 : w2.cell? ⟨b, 0, none⟩ = some (.pointer (some ⟨b, 0, none⟩)) := by rw [Lib.cell_of_heap hb2]; rfl
  have d1 : w2.cell? ⟨b, 1, none⟩ = some v := by rw [Lib.cell_of_heap hb2]; rfl
  have f1 : w2.frozen? ⟨b, 1, none⟩ = false := Lib.frozen_of_heap hb2 1
  obtain ⟨g, cap, rfl⟩ : ∃ g cap, v' = .slice (some ⟨g, 0, none⟩) (bs.length + 1) cap := by
    rcases hown'.2 with ⟨_, h0⟩ | ⟨g, cap, cur, hv, _⟩
    · omega
    · exact ⟨g, cap, hv⟩
  go_wp2
  go_ret
  have hgs : w.heap.size ≤ w2.heap.size := by have := hgrow.size; simp at this; omega
  have hput := Lib.BuilderAt.put (T := 93) (e := 5) (Nat.zero_le b) hb2 (bs' := bs ++ [.int .u8 c]) (by simpa using hown') (by decide)
  obtain ⟨_, v2, q1, q2, q3⟩ := hput
  have hv2 : v2 = .slice (some ⟨g, 0, none⟩) (bs.length + 1) cap := by
    have : (w2.setCell ⟨b, 1, none⟩ (.slice (some ⟨g, 0, none⟩) (bs.length + 1) cap)).heap[b]? = some (.cells #[.pointer (some ⟨b, 0, none⟩), .slice (some ⟨g, 0, none⟩) (bs.length + 1) cap] 93 (0, 0)) := by
      simp [World.setCell, Array.getElem?_modify, hb2]
    rw [this] at q1
    simp at q1
    exact q1.symm
  subst hv2
  refine ⟨rfl, fun k => k = b ∨ some g = some k, ⟨_, _, q1, .inr rfl, q2, q3, fun k => by simp [Value.ownBlock]⟩, ⟨?_, ?_, ?_⟩⟩
  · exact ⟨hgrow.os.trans hsm1.os, hgrow.tape.trans hsm1.tape, hgrow.output.trans hsm1.output, by rw [setCell_size]; exact hgs⟩
  · intro k hk hnS
    have hnS := mt (hS k).2 hnS
    rw [Below.heap_setCell _ _ _ _ (fun e => hnS (.inl e)), hgrow.block k (by simp; omega) (fun e => hnS (.inr e.symm)), Lib.alloc_old w1 _ k (by omega), hk1 k (fun e => hnS (.inl e))]
  · intro k hk
    rcases hk with rfl | hk
    · exact .inl ((hS _).2 (.inl rfl))
    · cases hk
      rcases hblk with hb' | hb'
      · exact .inl ((hS _).2 (.inr (by rw [← hb']; rfl)))
      · right
        simp only [Value.ownBlock, Option.some.injEq] at hb'
        try simp at hb'
        rw [setCell_size]
        refine ⟨by omega, ?_⟩
        rcases hown'.2 with ⟨hc, _⟩ | ⟨g', cap', cur, hv', _, hg, _⟩
        · cases hc
        · cases hv'
          rcases Nat.lt_or_ge g w2.heap.size with h' | h'
          · exact h'
          · simp [Array.getElem?_eq_none h'] at hg

end Go.RX.Sb

namespace Go.RX.Sb
open Go.Shelf Go.RowKit Go.Proofs

/-- A string's bytes behind owned ones: the bytes are where they were, or in a new block. -/
theorem append_str {P : Program} (w : World) (t u ty e : TypeId) (i : TypeInfo) (ht : P.underlying t = some (.slice e)) (hu : P.underlying u = some .string) (hi : P.info? e = some i) (hz : i.zero = some (.int .u8 0)) (hsize : i.size = 1) (hby : i.bytes = 1)
    (v : Value) (n : Nat) (xs : List Value) (hown : w.ownsRow 0 e 1 v n xs) (s : ByteArray) (h63 : n + s.size ≤ maxLen) (hbytes : n + s.size ≤ 140737488355328) :
    ∃ v' w', (Builtin.append_ #[t, u] ty #[v, .string s]).run P w = .ok v' w' ∧ w'.ownsRow 0 e 1 v' (n + s.size) (xs ++ Lib.strCells s) ∧ w.grownBy w' v.ownBlock ∧ ∀ k, v'.ownBlock = some k → v.ownBlock = some k ∨ w.heap.size ≤ k := by
  obtain ⟨v', w', hr, h2, h3, _⟩ := Lib.run_append_own_string (P := P) w 0 t u ty e i ht hu hi hz hsize hby v n xs hown s h63 hbytes (Nat.zero_le _)
  refine ⟨v', w', hr, h2, h3, ?_⟩
  have hxl : xs.length = n := by simpa using hown.1
  rcases hown.2 with ⟨rfl, rfl⟩ | ⟨g, cap, cur, rfl, hbg, hg, hnc, hcm, hcs, htake⟩
  · have hx : xs = [] := List.eq_nil_of_length_eq_zero hxl
    subst hx
    obtain ⟨v2, w2, hr2, k2, _, _⟩ := Lib.run_append_own_string (P := P) w w.heap.size t u ty e i ht hu hi hz hsize hby (.slice none 0 0) 0 [] (World.ownsRow_nil w _ e 1) s h63 hbytes (Nat.le_refl _)
    rw [hr] at hr2
    cases hr2
    intro k hk
    rcases k2.2 with ⟨rfl, _⟩ | ⟨g, cap, cur, rfl, hB, _⟩
    · simp [Value.ownBlock] at hk
    · simp only [Value.ownBlock, Option.some.injEq] at hk
      subst hk
      exact .inr hB
  · have hcs' : cur.size = cap := by simpa using hcs
    by_cases hroom : n + s.size ≤ cap
    · have hr2 := Lib.run_append_room_string (P := P) w t u ty e i ht hu hi hsize g n cap cur hg s hroom (by omega)
      rw [hr] at hr2
      cases hr2
      intro k hk
      exact .inl (by simpa [Value.ownBlock] using hk)
    · have holds : ∀ j u, xs[j]? = some u → w.cell? ((⟨g, 0, none⟩ : Addr).add j) = some u := hown.cells (g := g) rfl
      have hm : n + s.size ≤ 9223372036854775807 := by omega
      have hr2 := Lib.run_append_grow_string (P := P) w t u ty e i (.int .u8 0) ht hu hi hz ⟨g, 0, none⟩ n cap xs (by rw [hsize]; simpa using hxl) holds s (by omega) (by omega) (by rw [hby]; exact growslice_fits (by omega) (by omega))
      rw [hr] at hr2
      cases hr2
      intro k hk
      simp only [Value.ownBlock, Option.some.injEq] at hk
      exact .inr (by omega)
theorem wpList_append_str {P : Program} {w : World} {ops : Array Oper} {rest : List Oper} {o : Oper} {a : Act} {Q : Exit → Act → World → Prop} (hgd : o.guard = none) (sl x : Operand) (t u : TypeId)
    (ho : o.op = .call { callee := .builtin .append, args := #[sl, x], argTypes := #[t, u] }) (e : TypeId) (i : TypeInfo) (ht : P.underlying t = some (.slice e)) (hu : P.underlying u = some .string) (hi : P.info? e = some i) (hz : i.zero = some (.int .u8 0)) (hsize : i.size = 1) (hby : i.bytes = 1)
    (v : Value) (n : Nat) (xs : List Value) (hs : a.eval sl = v) (hown : w.ownsRow 0 e 1 v n xs) (s : ByteArray) (hx : a.eval x = .string s) (h63 : n + s.size ≤ maxLen) (hbytes : n + s.size ≤ 140737488355328)
    (h : ∀ v' w', w'.ownsRow 0 e 1 v' (n + s.size) (xs ++ Lib.strCells s) → w.grownBy w' v.ownBlock → (∀ k, v'.ownBlock = some k → v.ownBlock = some k ∨ w.heap.size ≤ k) → wpList P ops Q rest (a.put o.dst v') w') : wpList P ops Q (o :: rest) a w := by
  refine wpList_plain hgd fun K hK => ?_
  obtain ⟨v', w', hr, h2, h3, h4⟩ := append_str (P := P) w t u o.type e i ht hu hi hz hsize hby v n xs hown s h63 hbytes
  unfold Oper.wp execOp
  simp only [ho, resolve, invoke, builtin, Sem.run_bind, Sem.run_pure, Result.andThen_ok, List.map_toArray, List.map_cons, List.map_nil, hs, hx, hr]
  exact hK _ _ (h v' w' h2 h3 h4)

set_option maxHeartbeats 2000000 in
set_option maxRecDepth 100000 in
theorem writeString (b : Nat) (bs : List Value) (s : ByteArray) (w : World) (S : Nat → Prop) (h : (bldHP b 93 5 bs).p w S) (hlen : bs.length + s.size ≤ 140737488355328) :
    Calls Tryz.prog 45 #[.pointer (some ⟨b, 0, none⟩), .string s] w fun e w' => e = .returned (.tuple #[.int .i64 s.size, .nilIface]) ∧ ∃ S', (bldHP b 93 5 (bs ++ Lib.strCells s)).p w' S' ∧ Kept w w' S S' := by
  obtain ⟨pv, v, hb0, hpv, hown0, hne, hS⟩ := h
  have hlt0 : b < w.heap.size := by
    rcases Nat.lt_or_ge b w.heap.size with h' | h'
    · exact h'
    · simp [Array.getElem?_eq_none h'] at hb0
  obtain ⟨i0, hi, hz0, hz1, hz2⟩ := info_parts infoByte
  have hcc : Calls Tryz.prog 73 #[.pointer (some ⟨b, 0, none⟩)] w fun e w1 => e = .returned (.tuple #[]) ∧ (w1.heap[b]? = some (.cells #[.pointer (some ⟨b, 0, none⟩), v] 93 (0, 0)) ∧ Same w w1 ∧ w1.heap.size ≤ w.heap.size ∧ ∀ k, k ≠ b → w1.heap[k]? = w.heap[k]?) := by
    rcases hpv with rfl | rfl
    · refine (copyCheck_fresh b w (by rw [Lib.cell_of_heap hb0]; rfl) (by simp [World.shape?, hb0]) (by simp [World.frozen?, hb0])).mono ?_
      rintro e w1 ⟨rfl, rfl⟩
      exact ⟨rfl, by simp [World.setCell, Array.getElem?_modify, hb0], setCell_same _ _ _, Nat.le_of_eq (setCell_size _ _ _), fun k hk => Below.heap_setCell _ _ _ _ (fun e => hk (by simp [e]))⟩
    · refine (copyCheck_used b w (by rw [Lib.cell_of_heap hb0]; rfl)).mono ?_
      rintro e w1 ⟨rfl, rfl⟩
      exact ⟨rfl, hb0, Same.refl _, Nat.le_refl _, fun _ _ => rfl⟩
  go_enter Tryz.func45, Tryz.ntmps45
  go_wp2_with (go_at_call 73; refine hcc.mono ?_)
  rintro e w1 ⟨rfl, hbk, hsm1, hsz1, hk1⟩
  have hsz2 := hsm1.size
  have hown : w1.ownsRow 0 5 1 v bs.length bs := by
    refine ⟨hown0.1, ?_⟩
    rcases hown0.2 with hn | ⟨g, cap, cur, rfl, hB, hg, r⟩
    · exact .inl hn
    · exact .inr ⟨g, cap, cur, rfl, hB, (hk1 g (fun e => hne (by simp [Value.ownBlock, e]))).trans hg, r⟩
  have c0 : w1.cell? ⟨b, 0, none⟩ = some (.pointer (some ⟨b, 0, none⟩)) := by rw [Lib.cell_of_heap hbk]; rfl
  have c1 : w1.cell? ⟨b, 1, none⟩ = some v := by rw [Lib.cell_of_heap hbk]; rfl
  go_wp2_with (at_builtin; go_loud (refine wpList_append_str rfl _ _ 37 9 rfl 5 i0 Tryz.underlying37 Tryz.underlying9 hi hz0 hz1 hz2 _ _ _ rfl hown s rfl ?c3 ?c4 ?_))
  case c3 => unfold maxLen; omega
  case c4 => omega
  intro v' w2 hown' hgrow hblk
  have hlt : b < w1.heap.size := by omega
  have hb2 : w2.heap[b]? = some (.cells #[.pointer (some ⟨b, 0, none⟩), v] 93 (0, 0)) := by
    rw [hgrow.block b hlt (fun e => hne e.symm)]
    exact hbk
  have d0 : w2.cell? ⟨b, 0, none⟩ = some (.pointer (some ⟨b, 0, none⟩)) := by rw [Lib.cell_of_heap hb2]; rfl
  have d1 : w2.cell? ⟨b, 1, none⟩ = some v := by rw [Lib.cell_of_heap hb2]; rfl
  have f1 : w2.frozen? ⟨b, 1, none⟩ = false := Lib.frozen_of_heap hb2 1
  obtain ⟨ao, m', cap, rfl⟩ : ∃ ao m' cap, v' = .slice ao m' cap := by
    rcases hown'.2 with ⟨hv, _⟩ | ⟨g, cap, cur, hv, _⟩
    · exact ⟨_, _, _, hv⟩
    · exact ⟨_, _, _, hv⟩
  go_wp2
  go_ret2
  have hgs : w.heap.size ≤ w2.heap.size := by have := hgrow.size; omega
  have hput := Lib.BuilderAt.put (T := 93) (e := 5) (Nat.zero_le b) hb2 (bs' := bs ++ Lib.strCells s) (by simpa [Lib.strCells_length] using hown') (by decide)
  obtain ⟨_, v2, q1, q2, q3⟩ := hput
  have hv2 : v2 = .slice ao m' cap := by
    have : (w2.setCell ⟨b, 1, none⟩ (.slice ao m' cap)).heap[b]? = some (.cells #[.pointer (some ⟨b, 0, none⟩), .slice ao m' cap] 93 (0, 0)) := by
      simp [World.setCell, Array.getElem?_modify, hb2]
    rw [this] at q1
    simp at q1
    exact q1.symm
  subst hv2
  refine ⟨rfl, fun k => k = b ∨ (Value.slice ao m' cap).ownBlock = some k, ⟨_, _, q1, .inr rfl, q2, q3, fun k => Iff.rfl⟩, ⟨?_, ?_, ?_⟩⟩
  · exact ⟨hgrow.os.trans hsm1.os, hgrow.tape.trans hsm1.tape, hgrow.output.trans hsm1.output, by rw [setCell_size]; exact hgs⟩
  · intro k hk hnS
    have hnS := mt (hS k).2 hnS
    rw [Below.heap_setCell _ _ _ _ (fun e => hnS (.inl e)), hgrow.block k (by omega) (fun e => hnS (.inr e.symm)), hk1 k (fun e => hnS (.inl e))]
  · intro k hk
    rcases hk with rfl | hk
    · exact .inl ((hS _).2 (.inl rfl))
    · rcases hblk k hk with hb' | hb'
      · exact .inl ((hS _).2 (.inr hb'))
      · right
        rw [setCell_size]
        refine ⟨by omega, ?_⟩
        rcases hown'.2 with ⟨hc, _⟩ | ⟨g', cap', cur, hv', _, hg, _⟩
        · cases hc
          simp [Value.ownBlock] at hk
        · cases hv'
          simp only [Value.ownBlock, Option.some.injEq] at hk
          subst hk
          rcases Nat.lt_or_ge g' w2.heap.size with h' | h'
          · exact h'
          · simp [Array.getElem?_eq_none h'] at hg
end Go.RX.Sb
