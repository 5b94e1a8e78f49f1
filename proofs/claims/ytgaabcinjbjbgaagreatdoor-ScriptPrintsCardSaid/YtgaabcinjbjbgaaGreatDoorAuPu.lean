/- What the library's functions do is what the executor takes them to do. -/
import Derived.Test.YtgaabcinjbjbgaaGreatDoorSyB
import Derived.Test.YtgaabcinjbjbgaaGreatDoorRyK
import Derived.Test.YtgaabcinjbjbgaaGreatDoorAuA
import Derived.Test.YtgaabcinjbjbgaaGreatDoorAuCtx
import Derived.Test.YtgaabcinjbjbgaaGreatDoorLyS
namespace Go.RX.Au
open Go.Proofs Go.RowKit

section
variable {P : Program} {f : Nat} {args : List Value} {v : Value}
theorem meets_pure (h : ∀ w, Calls P f args.toArray w fun e w' => e = .returned v ∧ w' = w) : Meets P f args [] fun x hs => x = v ∧ hs = [] := by
  intro w Fs ho
  refine (h w).mono ?_
  rintro e w' ⟨rfl, rfl⟩
  exact ⟨v, [], rfl, ⟨rfl, rfl⟩, ho, Same.refl _⟩
theorem meets_below {pre : List HP} (h : ∀ w Fs, Owns (pre ++ Fs) w → Calls P f args.toArray w fun e w' => e = .returned v ∧ Below w.heap.size w w') : Meets P f args pre fun x hs => x = v ∧ hs = pre := by
  intro w Fs ho
  refine (h w Fs ho).mono ?_
  rintro e w' ⟨rfl, hb⟩
  obtain ⟨S, hS⟩ := ho
  obtain ⟨h1, h2, h3, h4, h5⟩ := hb
  exact ⟨v, pre, rfl, ⟨rfl, rfl⟩, ⟨S, hS.keep h4 fun k hk => h5 k hk⟩, ⟨h1, h2, h3, h4⟩⟩
theorem meets_one {h0 h1 : HP} (hw : h0.wr = true) (h : ∀ w S, h0.p w S → Calls P f args.toArray w fun e w' => e = .returned v ∧ ∃ S', h1.p w' S' ∧ Sb.Kept w w' S S') : Meets P f args [h0] fun x hs => x = v ∧ hs = [h1] := by
  intro w Fs ho
  obtain ⟨S, hS⟩ := ho
  refine (h w (S 0) (hS.at_ 0 h0 rfl).1).mono ?_
  rintro e w' ⟨rfl, S', hp, hk⟩
  exact ⟨v, [h1], rfl, ⟨rfl, rfl⟩, ⟨_, hS.step 0 h0 h1 rfl hw S' hk.same.size hk.old hp hk.sub⟩, hk.same⟩
theorem meets_drop {h0 : HP} (hw : h0.wr = true) (h : ∀ w S, h0.p w S → Calls P f args.toArray w fun e w' => e = .returned v ∧ Same w w' ∧ ∀ k, k < w.heap.size → ¬ S k → w'.heap[k]? = w.heap[k]?) : Meets P f args [h0] fun x hs => x = v ∧ hs = [] := by
  intro w Fs ho
  obtain ⟨S, hS⟩ := ho
  refine (h w (S 0) (hS.at_ 0 h0 rfl).1).mono ?_
  rintro e w' ⟨rfl, hsm, hk⟩
  have hs := hS.step 0 h0 HP.emp rfl hw (fun _ => False) hsm.size hk (fun _ h => h) (fun _ h => h.elim)
  have : Owns ([HP.emp] ++ Fs) w' := ⟨_, hs⟩
  exact ⟨v, [], rfl, ⟨rfl, rfl⟩, Owns.sub this (List.sublist_cons_self _ _), hsm⟩
end

theorem idx_spec (c : UInt8) : ∀ (l : List UInt8) (i : Nat), idxFrom c i l = if Lib.indexByte l c = -1 then -1 else (i : Int) + Lib.indexByte l c
  | [], i => rfl
  | b :: l, i => by
    have hg := Lib.indexByte_ge l c
    simp only [idxFrom, Lib.indexByte, idx_spec c l (i + 1)]
    by_cases hb : b == c
    · simp [hb]
    · by_cases hn : Lib.indexByte l c = -1
      · simp [hb, hn]
      · have h2 : ¬ Lib.indexByte l c + 1 = -1 := by omega
        simp [hb, hn, h2]
        omega
theorem idxB_spec (l : List UInt8) (c : UInt8) : idxB l c = Lib.indexByte l c := by
  have hg := Lib.indexByte_ge l c
  unfold idxB
  rw [idx_spec]
  split <;> omega
theorem joinL_spec (sep : List UInt8) : ∀ xs : List (List UInt8), joinL sep xs = Lib.join xs sep
  | [] => rfl
  | [x] => by simp [joinL, Lib.join, List.intercalate]
  | x :: y :: r => by
    have := joinL_spec sep (y :: r)
    simp only [joinL, this, Lib.join, List.intercalate, List.intersperse_cons_cons, List.flatten_cons, List.append_assoc]
theorem strsOf_cells (ρ : Env) : ∀ {cs : List SV} {xs : List (List UInt8)}, strsOf cs = some xs → SV.cellsL ρ cs = xs.map fun l => Value.string ⟨l.toArray⟩
  | [], xs, h => by simp [strsOf] at h; subst h; rfl
  | v :: r, xs, h => by
    cases v with
    | str l =>
      simp only [strsOf, Option.map_eq_some_iff] at h
      obtain ⟨ys, hy, rfl⟩ := h
      simp only [SV.cellsL, SV.cells, strsOf_cells ρ hy, List.map_cons, List.singleton_append]
    | _ => simp [strsOf] at h
theorem bytesL_cells (ρ : Env) {a : E} {n : Nat} {l : List UInt8} (h : bytesL a n = some l) : segCells .u8 n (a.den ρ) = Lib.byteCells l := by
  unfold bytesL at h
  split at h
  · rename_i zs hz
    split at h
    · rename_i hb
      cases h
      have := litsOf_den (ρ := ρ) hz
      subst this
      unfold segCells Lib.byteCells
      rw [List.map_map, List.map_map]
      refine List.map_congr_left fun j hj => ?_
      have := List.all_eq_true.1 hb (a.den ρ j) (List.mem_map.2 ⟨j, hj, rfl⟩)
      simp only [Bool.and_eq_true, decide_eq_true_eq] at this
      simp only [Function.comp]
      congr 1
      rw [UInt8.toNat_ofNat']
      omega
    · cases h
  · cases h
theorem byteVcs_cells (ρ : Env) {a : E} {k : Nat} (h : ∀ b ∈ byteVcs a k, b.prop ρ) : segCells .u8 k (a.den ρ) = Lib.byteCells ((List.range k).map fun j => UInt8.ofNat (a.den ρ j).toNat) := by
  unfold segCells Lib.byteCells
  rw [List.map_map]
  refine List.map_congr_left fun j hj => ?_
  have key : ∀ b ∈ [bLe (.lit 0) (eSel a (.lit j)), bLe (eSel a (.lit j)) (.lit 255)], b.prop ρ := by
    intro b hb
    refine filt_prop (l := (List.range k).flatMap fun (j : Nat) => [bLe (.lit 0) (eSel a (.lit (j : Int))), bLe (eSel a (.lit (j : Int))) (.lit 255)]) h b (List.mem_flatMap.2 ⟨j, hj, hb⟩)
  have q1 := of_decide_eq_true (bLe_den ρ _ _ ▸ (BE.den_iff ρ _).2 (key (bLe (.lit 0) (eSel a (.lit j))) (by simp)))
  have q2 := of_decide_eq_true (bLe_den ρ _ _ ▸ (BE.den_iff ρ _).2 (key (bLe (eSel a (.lit j)) (.lit 255)) (by simp)))
  simp only [den_lit, eSel_den, Int.toNat_natCast] at q1 q2
  simp only [Function.comp]
  congr 1
  rw [UInt8.toNat_ofNat']
  omega
theorem findBld_spec {hp : List Ck} {b j t e : Nat} {n a : E} (h : findBld hp b = some (j, t, e, n, a)) : hp[j]? = some (.bld b t e n a) := by
  unfold findBld at h
  split at h
  · rename_i i hi
    split at h
    · rename_i b' t' e' n' a' hj
      cases h
      obtain ⟨hlt, hq, _⟩ := List.findIdx?_eq_some_iff_getElem.1 hi
      obtain ⟨_, he⟩ := List.getElem?_eq_some_iff.1 hj
      rw [he] at hq
      have hb : b = b' := by simpa using hq
      rw [hj, hb]
    · cases h
  · cases h

noncomputable def cx0 : Ctx := { T := TT, FT := FT, pure := pure }
theorem upd_seg (ρ : Env) (n a c : E) (hn : 0 ≤ n.den ρ 0) : segCells .u8 ((eAdd n (.lit 1)).den ρ 0).toNat ((E.upd a n c).den ρ) = segCells .u8 (n.den ρ 0).toNat (a.den ρ) ++ [.int .u8 (c.den ρ 0)] := by
  rw [eAdd_den, den_lit, show (n.den ρ 0 + 1).toNat = (n.den ρ 0).toNat + 1 by omega]
  unfold segCells
  rw [List.range_succ, List.map_append, List.map_singleton]
  congr 1
  · refine List.map_congr_left fun j hj => ?_
    have := List.mem_range.1 hj
    rw [den_upd, if_neg (by omega)]
  · rw [den_upd, if_pos rfl]

theorem use_one {hp : List Ck} {j : Nat} {ck : Ck} (h : hp[j]? = some ck) : hp.getD j .emp = ck := by
  rw [List.getD_eq_getElem?_getD, h]; rfl

theorem pureOk0 (T : List TI) (FT : List (Nat × Func)) (J : Nat → Nat → Option JoinAnn) (G : Nat → Nat → Option (St → Option GhostStep)) : PureOk Tryz.prog { T := T, FT := FT, pure := pure, joins := J, ghosts := G } := by
  intro f args hp r ρ h hvc
  unfold pureRes at h
  simp only at h
  unfold pure at h
  split at h
  · rename_i g hg
    split at hg
    · -- IndexByte
      cases hg
      unfold pIndexByte at h
      split at h
      · rename_i l c
        cases h
        exact meets_pure fun w => by
          have := Tryz.stringslite_IndexByte ⟨l.toArray⟩ c w
          rw [SV.val, E.den, idxB_spec]
          exact this
      · cases h
    · -- Count
      cases hg
      unfold pCount at h
      split at h
      · rename_i l c
        cases h
        exact meets_pure fun w => Tryz.strings_Count_one ⟨l.toArray⟩ c w
      · cases h
    · -- WriteByte
      cases hg
      unfold pWriteByte at h
      split at h
      · rename_i b c
        split at h
        · rename_i j n a hf
          cases h
          have hj := findBld_spec hf
          have q1 := bLe'_prop fun c hc => hvc c (List.mem_append_left _ hc)
          have q2 := hvc _ (List.mem_append_right _ (List.mem_singleton.2 rfl))
          have q2 := of_decide_eq_true (bLe_den ρ _ _ ▸ (BE.den_iff ρ _).2 q2)
          rw [eAdd_den] at q2
          simp only [den_lit] at q1 q2
          simp only [List.map_cons, List.map_nil, use_one hj]
          refine meets_one rfl fun w S hS => ?_
          have := Sb.writeByte (ρ.bv.getD b 0) (segCells .u8 (n.den ρ 0).toNat (a.den ρ)) (c.den ρ 0) w S hS (by rw [segCells_length]; omega)
          simp only [Ck.den, upd_seg ρ n a c q1]
          exact this
        · cases h
      · cases h
    · -- String
      cases hg
      unfold pString at h
      split at h
      · rename_i b
        split at h
        · rename_i j k a hf
          split at h
          · rename_i x l hl
            cases h
            have hj := findBld_spec hf
            simp only [List.map_cons, List.map_nil, use_one hj]
            refine meets_drop rfl fun w S hS => ?_
            have hS : (bldHP (ρ.bv.getD b 0) 93 5 (Lib.byteCells (x :: l))).p w S := by
              have := bytesL_cells ρ hl
              rw [← this]
              exact hS
            exact Sb.string Tryz.lays169 Tryz.Builder_Extra_169 (ρ.bv.getD b 0) (x :: l) w S hS (by simp)
          · split at h
            · cases h
            · rename_i hk0
              cases h
              have hj := findBld_spec hf
              simp only [List.map_cons, List.map_nil, use_one hj]
              have hl := byteVcs_cells ρ hvc
              refine meets_drop rfl fun w S hS => ?_
              have hS : (bldHP (ρ.bv.getD b 0) 93 5 (Lib.byteCells ((List.range k).map fun j => UInt8.ofNat (a.den ρ j).toNat))).p w S := by
                rw [← hl]
                exact hS
              have := Sb.string Tryz.lays169 Tryz.Builder_Extra_169 (ρ.bv.getD b 0) _ w S hS (by simp; omega)
              rw [SV.val, eBytes_den, den_lit, Int.toNat_natCast]
              exact this
        · cases h
      · cases h
    · -- Join
      cases hg
      unfold pJoin at h
      split at h
      · rename_i b n m sep
        split at h
        · rename_i j b' wr cs hf
          split at h
          · rename_i xs hxs
            split at h
            · rename_i hc
              obtain ⟨rfl, hnm, hn1, hl⟩ := hc
              cases h
              obtain ⟨hj, hat⟩ := findAt_spec hf
              simp only [Ck.isAt, beq_iff_eq] at hat
              subst hat
              simp only [List.map_cons, List.map_nil, use_one hj]
              refine meets_below fun w Fs ho => ?_
              obtain ⟨S, hS⟩ := ho
              obtain ⟨⟨h1, ty, fz, h2, _⟩, hlt⟩ := hS.at_ 0 _ rfl
              have hb : ρ.bv.getD b 0 < w.heap.size := hlt _ ((h1 _).2 rfl)
              have hcells : ∀ (q : Nat) x, (xs.map fun l => (⟨l.toArray⟩ : ByteArray))[q]? = some x → w.cell? ⟨ρ.bv.getD b 0, 0 + q, none⟩ = some (.string x) := by
                intro q x hx
                rw [strsOf_cells ρ hxs] at h2
                simp only [World.cell?, h2, Nat.zero_add]
                rw [List.getElem?_map] at hx
                cases hq : xs[q]? with
                | none => rw [hq] at hx; cases hx
                | some y =>
                  rw [hq] at hx
                  cases hx
                  simp [hq]
              have he : ((xs.map fun l => (⟨l.toArray⟩ : ByteArray)).map (·.data.toList)) = xs := by
                rw [List.map_map]
                exact (List.map_congr_left fun _ _ => rfl).trans (List.map_id _)
              have := Tryz.strings_Join (ρ.bv.getD b 0) 0 m (xs.map fun l => ⟨l.toArray⟩) ⟨sep.toArray⟩ w hcells hb (by simp; omega) (by simpa using hnm) (by rw [he, ← joinL_spec]; exact Nat.le_trans hl (by decide))
              rw [he, ← joinL_spec, List.length_map] at this
              exact this
            · cases h
          · cases h
        · cases h
      · cases h
    · cases hg
  · cases h
end Go.RX.Au
