/- What the executor takes at sight holds; 'works' of layer 32 returns true. -/
import Derived.Test.YtgaabcinjbjbgaaDoorM30

namespace Go.RX.Sc
open Go Go.RX Go.Proofs Go.RowKit Go.RX.Au
theorem pure_ok (C : Ctx) (hC : C.pure = pure) : PureOk Tryd.prog C := by
  intro f args hp r ρ h hvc
  unfold pureRes at h
  rw [hC] at h
  unfold pure at h
  split at h
  · rename_i g hg
    split at hg
    · -- WriteString
      cases hg
      unfold pWriteStr at h
      split at h
      · rename_i b s
        split at h
        · rename_i j n a e hf he
          cases h
          have hj := findBld_spec hf
          have q1 := bLe'_prop fun c hc => hvc c (List.mem_append_left _ (List.mem_append_left _ hc))
          have q2 := bLe'_prop fun c hc => hvc c (List.mem_append_left _ (List.mem_append_right _ hc))
          have q3 := bLe'_prop fun c hc => hvc c (List.mem_append_right _ hc)
          rw [eAdd_den, eLen_den] at q3
          rw [eLen_den] at q2
          simp only [den_lit] at q1 q2 q3
          simp only [List.map_cons, List.map_nil, use_one hj]
          have hs := toStrE_val ρ he
          refine meets_one rfl fun w S hS => ?_
          have hsz : (⟨(strD (e.den ρ)).toArray⟩ : ByteArray).size = (e.den ρ 0).toNat := by simp [ByteArray.size, strD_length]
          have := Sb.writeString (ρ.bv.getD b 0) (segCells .u8 (n.den ρ 0).toNat (a.den ρ)) ⟨(strD (e.den ρ)).toArray⟩ w S hS (by rw [segCells_length, hsz]; omega)
          simp only [Ck.den, catB_seg ρ he q1 q2]
          rw [hsz, show (((e.den ρ 0).toNat : Nat) : Int) = e.den ρ 0 by omega] at this
          simp only [SV.vals, SV.val, hs, eLen_den]
          exact this
        · cases h
      · cases h
    · -- Len
      cases hg
      unfold pLen at h
      split at h
      · rename_i b
        split at h
        · rename_i j n a hf
          cases h
          have hj := findBld_spec hf
          have q1 := bLe'_prop hvc
          simp only [den_lit] at q1
          simp only [List.map_cons, List.map_nil, use_one hj]
          refine meets_below fun w Fs ho => ?_
          obtain ⟨S, hS⟩ := ho
          have hp := (hS.at_ 0 _ rfl).1
          refine (builderLen (ρ.bv.getD b 0) (segCells .u8 (n.den ρ 0).toNat (a.den ρ)) w (S 0) hp).mono ?_
          rintro e w' ⟨rfl, rfl⟩
          refine ⟨?_, Below.refl _ _⟩
          rw [segCells_length, show (((n.den ρ 0).toNat : Nat) : Int) = n.den ρ 0 by omega]
          rfl
        · cases h
      · cases h
    · -- Join
      cases hg
      unfold pJoinS at h
      split at h
      · rename_i v sep
        split at h
        · rename_i j md v' n a hf
          obtain ⟨hj, hat⟩ := findOwn_spec hf
          simp only [Ck.ownOf, beq_iff_eq] at hat
          subst hat
          split at h
          · rename_i hc
            obtain ⟨hn1, hn2, hsp⟩ := hc
            have hden : (Ck.sli md v 9 1 (.lit n) [⟨.str, 1, a⟩]).den ρ = sliHP md 9 1 (ρ.vv.getD v V1.nil).v ((strsAt a n).map fun e => strD (e.den ρ)).length (((strsAt a n).map fun e => strD (e.den ρ)).map fun l => .string ⟨l.toArray⟩) := by
              rw [strsAt_den]
              simp only [Ck.den, den_lit, tabCells, List.map_cons, List.map_nil, Col.cells, Int.toNat_natCast, List.length_map, List.length_range]
              rw [tab_str]
            have hlen : ((strsAt a n).map fun e => strD (e.den ρ)).length = n := by simp [strsAt]
            split at h
            · rename_i xs hxs
              have hx := strLits_den ρ hxs
              split at h
              · rename_i hl
                cases h
                simp only [List.map_cons, List.map_nil, use_one hj]
                rw [show (Ck.sli md v 9 1 (.lit (Int.ofNat n)) [⟨.str, 1, a⟩]) = (Ck.sli md v 9 1 (.lit n) [⟨.str, 1, a⟩]) from rfl, hden, hx]
                have hxl : xs.length = n := by rw [← hx, hlen]
                have := join_sli md (ρ.vv.getD v V1.nil).v xs sep (by omega) (by omega) (by rw [← joinL_spec]; exact Nat.le_trans hl (by decide))
                rw [← joinL_spec] at this
                exact this
              · cases h
            · cases h
              have q0 : ∀ e ∈ strsAt a n, 0 ≤ e.den ρ 0 := by
                intro e he
                have := bLe'_prop fun c hc => hvc c (List.mem_append_left _ (List.mem_flatMap.2 ⟨e, he, hc⟩))
                rw [eLen_den] at this
                exact this
              have q1 := bLe'_prop fun c hc => hvc c (List.mem_append_right _ hc)
              rw [den_lit, ← lenAll_den ρ sep q0] at q1
              simp only [List.map_cons, List.map_nil, use_one hj]
              rw [show (Ck.sli md v 9 1 (.lit (Int.ofNat n)) [⟨.str, 1, a⟩]) = (Ck.sli md v 9 1 (.lit n) [⟨.str, 1, a⟩]) from rfl, hden]
              have hsep : strD ((rowB sep).den ρ) = sep := by rw [rowB_den, strD_rowS]
              have hs0 : 0 ≤ (rowB sep).den ρ 0 := by rw [rowB_den]; exact Int.natCast_nonneg _
              have hcat := (catAll_den ρ (rowB sep) hs0 q0).1
              rw [hsep] at hcat
              have := join_sli md (ρ.vv.getD v V1.nil).v ((strsAt a n).map fun e => strD (e.den ρ)) sep (by omega) (by omega) (by rw [← joinL_spec]; omega)
              rw [← joinL_spec, ← hcat] at this
              exact this
          · cases h
        · cases h
      · rename_i hne
        exact pureOk0 C.T C.FT C.joins C.ghosts 25 args hp r ρ (by simpa [pureRes, Au.pure] using h) hvc
    · -- small
      cases hg
      unfold pSmall at h
      split at h
      · rename_i n
        split at h
        · rename_i hn
          cases h
          exact meets_pure fun w => Tryd.internal_strconv_small n hn w
        · cases h
      · cases h
    · -- Atoi
      cases hg
      unfold pAtoi at h
      split at h
      · rename_i l
        split at h
        · rename_i v hv
          split at h
          · rename_i hl
            cases h
            refine meets_below fun w Fs _ => ?_
            refine (Tryd.strconv_Atoi_ok ⟨l.toArray⟩ (by simp [ByteArray.size]; omega) v hv w).mono ?_
            rintro e w' ⟨rfl, hw⟩
            refine ⟨rfl, ?_⟩
            rcases hw with rfl | ⟨t, rfl⟩
            · exact Below.refl _ _
            · exact Lib.bytesWorld_below _ _ _
          · cases h
        · cases h
      · cases h
    · -- ParseUint
      cases hg
      unfold pParse at h
      split at h
      · rename_i l
        split at h
        · rename_i v hv
          split at h
          · rename_i hl
            cases h
            refine meets_below fun w Fs _ => ?_
            refine (Tryd.strconv_ParseUint_10_at8_ok ⟨l.toArray⟩ (by simp [ByteArray.size]; omega) v hv w).mono ?_
            rintro e w' ⟨rfl, hw⟩
            refine ⟨rfl, ?_⟩
            rcases hw with rfl | rfl
            · exact Below.refl _ _
            · exact Lib.bytesWorld_below _ _ _
          · cases h
        · cases h
      · cases h
    · exact pureOk0 C.T C.FT C.joins C.ghosts f args hp r ρ (by unfold pureRes; simp only; rw [hg]; exact h) hvc
  · cases h
noncomputable def cx : Ctx := { T := TT, FT := FT, pure := pure }
set_option maxRecDepth 100000
theorem works_ran : (runF cx 4 [] [] {} Tryd.f4).triv2 [] {} = true := by kernel_rfl
theorem works_meets : Meets Tryd.prog 4 [] [] (fun v hs => v = .bool true ∧ hs = []) := law0' okT okFT okM Tryd.func4 works_ran (pure_ok cx rfl)
end Go.RX.Sc
