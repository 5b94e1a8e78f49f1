/- A reflective symbolic executor, part 15g: what is done to maps. -/
import Derived.Test.YtgaabcinjbjbgaaDoorRxOf

namespace Go.RX
section
variable {P : Program} {ρ : Env} {w : World} {look : Nat → Option SV} {vals : Operand → Value} {hp : List Ck} {S : Nat → Nat → Prop} {nb nv : Nat} {T : List TI}
theorem litAt_den {a : E} {i : Nat} {x : Int} (h : litAt a i = some x) : a.den ρ i = x := by
  unfold litAt at h
  split at h
  · rename_i n hn
    cases h
    have := eSel_den ρ a (.lit i) 0
    rw [hn] at this
    simp only [E.den, Int.toNat_natCast] at this
    exact this.symm
  · cases h
theorem litsOf_den {a : E} : ∀ {n : Nat} {l : List Int}, litsOf a n = some l → l = (List.range n).map (a.den ρ)
  | 0, l, h => by simp [litsOf] at h; subst h; rfl
  | n + 1, l, h => by
    unfold litsOf at h
    split at h
    · rename_i l' x h1 h2
      cases h
      rw [List.range_succ, List.map_append, ← litsOf_den h1]
      simp [litAt_den h2]
    · cases h
theorem eKc_den (n : Nat) (a : E) : ((eKc n a).den ρ 0) = (kcode ((List.range n).map (a.den ρ)) : Nat) := by
  unfold eKc
  split
  · rename_i l h
    rw [← litsOf_den h]
    rfl
  · rfl
theorem allInt_spec : ∀ {l : List CellK} {kl : List IntKind}, allInt l = some kl → l = kl.map some
  | [], kl, h => by simp [allInt] at h; subst h; rfl
  | some k :: r, kl, h => by
    simp only [allInt, Option.map_eq_some_iff] at h
    obtain ⟨x, hx, rfl⟩ := h
    rw [allInt_spec hx]; rfl
  | none :: r, kl, h => by simp [allInt] at h
theorem keyKinds_spec (hT : checkT P T = true) {t : Nat} {tk : TI} (ht : tlook T t = some tk) {kl : List IntKind} {ka : Bool} (h : keyKinds tk = some (kl, ka)) : KeyT P t kl ka := by
  obtain ⟨rfl, hti⟩ := tlook_spec hT ht
  have hkk := hti.kind
  unfold keyKinds at h
  split at h
  · rename_i k hk
    cases h
    rw [hk] at hkk
    have hu := kind_int hkk
    exact ⟨by simp [layOf, hu], fun _ => ⟨k, rfl, hu⟩, fun h => (by cases h)⟩
  · rename_i fs hk
    split at h
    · cases h
    · rename_i hne
      rw [Option.map_eq_some_iff] at h
      obtain ⟨l, hl, he⟩ := h
      cases he
      rw [hk] at hkk
      obtain ⟨fa, hu, _⟩ := kind_struct hkk
      rcases hti.lay with h | ⟨h, _⟩
      · exact absurd h hne
      · rw [allInt_spec hl] at h
        exact ⟨h, fun h => (by cases h), fun _ => ⟨fun cs => by simp [VOf, hu], by simp [hu]⟩⟩
  · rename_i n e hk
    split at h
    · cases h
    · rename_i hne
      rw [Option.map_eq_some_iff] at h
      obtain ⟨l, hl, he⟩ := h
      cases he
      rw [hk] at hkk
      have hu := kind_arr hkk
      rcases hti.lay with h | ⟨h, _⟩
      · exact absurd h hne
      · rw [allInt_spec hl] at h
        exact ⟨h, fun h => (by cases h), fun _ => ⟨fun cs => by simp [VOf, hu], by simp [hu]⟩⟩
  · cases h
theorem keyCells_val {ka : Bool} {k : SV} {kc : List SV} (h : keyCells ka k = some kc) {kl : List IntKind} {ks : List Int} (hk : ks.length = kl.length) (h1 : ka = false → ∃ k, kl = [k]) (hc : SV.cellsL ρ kc = mkI kl ks) : k.val ρ = encK ka kl ks := by
  unfold keyCells at h
  split at h
  · cases h
    simp only [SV.val, hc, encK_agg]
  · rename_i q e
    cases h
    obtain ⟨k0, rfl⟩ := h1 rfl
    match ks, hk, hc with
    | [x], _, hc =>
      have hc : [Value.int q (e.den ρ 0)] = [Value.int k0 x] := hc
      simp only [List.cons.injEq, and_true] at hc
      exact hc
  · cases h
theorem kind_map {d : Option TypeDesc} {k v : Nat} (h : tkOk d (.map k v) = true) : d = some (.map k v) := by
  unfold tkOk at h
  split at h <;> simp_all
theorem findMap_spec {hp : List Ck} {b j : Nat} {ck : Ck} (h : findMap hp b = some (j, ck)) : hp[j]? = some ck ∧ ck.isMap b = true := by
  unfold findMap at h
  split at h
  · rename_i i hi
    rw [Option.map_eq_some_iff] at h
    obtain ⟨c, hc, he⟩ := h
    cases he
    refine ⟨hc, ?_⟩
    rw [List.findIdx?_eq_some_iff_getElem] at hi
    obtain ⟨hlt, h1, _⟩ := hi
    rw [List.getElem?_eq_getElem hlt] at hc
    cases hc
    exact h1
  · cases h
theorem zeroColsM_spec {te : TI} {z : List Col} (h : zeroColsM T te = some z) : ∀ i : Nat, rowAt ρ z i = SV.cellsL ρ te.zero := by
  unfold zeroColsM at h
  split at h
  · split at h
    · rename_i hz
      cases h
      simp only [Bool.and_eq_true, List.isEmpty_iff] at hz
      intro i
      rw [hz.1]; rfl
    · cases h
  · exact fun i => (zeroCols_spec h).1 i
theorem litSame_cells : ∀ {a b : List SV}, litSame a b = true → SV.cellsL ρ a = SV.cellsL ρ b
  | [], [], _ => rfl
  | [], _ :: _, h => by simp [litSame] at h
  | v :: r, [], h => by cases v <;> simp [litSame] at h
  | v :: r, u :: s, h => by
    unfold litSame at h
    split at h
    · rename_i h1 _; cases h1
    · rename_i h1 h2
      cases h1
      cases h2
      simp only [Bool.and_eq_true, beq_iff_eq] at h
      obtain ⟨⟨rfl, rfl⟩, h⟩ := h
      simp only [SV.cellsL, litSame_cells h]
    · rename_i h1 h2
      cases h1
      cases h2
      simp only [Bool.and_eq_true, beq_iff_eq] at h
      obtain ⟨rfl, h⟩ := h
      simp only [SV.cellsL, litSame_cells h]
    · rename_i h1 h2
      cases h1
      cases h2
      simp only [Bool.and_eq_true, beq_iff_eq] at h
      obtain ⟨⟨⟨rfl, rfl⟩, rfl⟩, h⟩ := h
      simp only [SV.cellsL, litSame_cells h]
    · rename_i h1 h2; cases h1; cases h2; simp only [SV.cellsL, litSame_cells h]
    · rename_i h1 h2; cases h1; cases h2; simp only [SV.cellsL, litSame_cells h]
    · rename_i h1 h2; cases h1; cases h2; simp only [SV.cellsL, litSame_cells h]
    · rename_i h1 h2; cases h1; cases h2; simp only [SV.cellsL, litSame_cells h]
    · rename_i h1 h2; cases h1; cases h2; simp only [SV.cellsL, litSame_cells h]
    · rename_i h1 h2
      cases h1
      cases h2
      simp only [Bool.and_eq_true, beq_iff_eq] at h
      obtain ⟨rfl, h⟩ := h
      simp only [SV.cellsL, litSame_cells h]
    · cases h
theorem hasL_put {k : Nat} {v : List SV} : ∀ {es : List (Nat × List SV)} {q : Nat}, hasL (putL k v es) q = if q = k then true else hasL es q
  | [], q => by simp only [putL, hasL, eq_comm]
  | (i, u) :: r, q => by
    simp only [putL]
    split
    · rename_i h; subst h; simp only [hasL, eq_comm]; split <;> rfl
    · rename_i h
      simp only [hasL]
      split
      · rename_i h2; subst h2; rw [if_neg h]
      · exact hasL_put
theorem rowL_put {k : Nat} {v z : List SV} : ∀ {es : List (Nat × List SV)} {q : Nat}, rowL (putL k v es) z q = if q = k then v else rowL es z q
  | [], q => by simp only [putL, rowL, eq_comm]
  | (i, u) :: r, q => by
    simp only [putL]
    split
    · rename_i h; subst h; simp only [rowL, eq_comm]; split <;> rfl
    · rename_i h
      simp only [rowL]
      split
      · rename_i h2; subst h2; rw [if_neg h]
      · exact rowL_put
theorem makeMapSym_sound (_ : checkT P T = true) (hnb : ρ.bv.length = nb) {t : Nat} {res : Res} (h : makeMapSym T nb t = some res) :
    Did P ρ w hp S nb nv ((do pure (.value (← Instr.makeMap t none)) : Sem Next).run P w) res := by
  unfold makeMapSym at h
  split at h
  · rename_i kt vt sz by_ zr ly htt
    split at h
    · rename_i tk tv htk htv
      split at h
      · rename_i kl ka cols hk hz
        cases h
        refine ⟨w.alloc (.map #[] 0), _, if_pos rfl, ?_, ⟨rfl, rfl, rfl, by simp⟩, by simp, fun k hk => heap_alloc_old w _ hk, ⟨fun k => Iff.rfl, ⟨#[], 0, heap_alloc_new w _, ?_⟩, ?_⟩⟩
        · subst hnb
          simp [Instr.makeMap, SV.val, getD_addB]
        · refine ⟨by simp, by simp, fun ks _ hh => by simp [E.den] at hh⟩
        · intro ks _ _
          split at hz
          · cases hz
          · exact zeroColsM_spec (ρ := ρ) hz _
      · rename_i kl ka hk hz
        cases h
        refine ⟨w.alloc (.map #[] 0), _, if_pos rfl, ?_, ⟨rfl, rfl, rfl, by simp⟩, by simp, fun k hk => heap_alloc_old w _ hk, ⟨fun k => Iff.rfl, ⟨#[], 0, heap_alloc_new w _, ?_⟩, ?_⟩⟩
        · subst hnb
          simp [Instr.makeMap, SV.val, getD_addB]
        · refine ⟨by simp, by simp, fun ks _ hh => by simp [hasL] at hh⟩
        · intro ks _ _
          rfl
      · cases h
    · cases h
  · cases h
theorem ofCells_encV {agg : Bool} {cs : List SV} {v : SV} (h : ofCells agg cs = some v) : v.val ρ = encV agg (SV.cellsL ρ cs) := by
  obtain ⟨h1, h2⟩ := ofCells_val ρ h
  cases agg with
  | true => rw [h1 rfl]; rfl
  | false => have := h2 rfl; rw [this]; rfl
theorem zero_enc {ti : TI} (hti : TInfo P ti) {i : TypeInfo} {z : Value} (hi : P.info? ti.t = some i) (hz : i.zero = some z) (hc : SV.cellsL ρ ti.zero = z.cells.toList) : encV ti.k.agg (SV.cellsL ρ ti.zero) = z := by
  have hg := hti.zag i z hi hz
  rw [hc]
  cases z with
  | agg cs => simp only at hg; rw [hg]; simp [encV, Value.cells]
  | _ => simp only [Bool.not_eq_true'] at hg; rw [hg]; simp [encV, Value.cells]
theorem lookupSym_sound (hT : checkT P T = true) {t : Nat} {x k : SV} {comma : Bool} {res : Res} (h : lookupSym T hp t x k comma = some res) (hrd : Reads hp ρ w S res.rd) :
    (Instr.lookup t (x.val ρ) (k.val ρ) comma).run P w = .ok (res.val.val ρ) w ∧ res.eff = .none := by
  unfold lookupSym at h
  split at h
  · rename_i kt vt sz by_ zr ly htt
    obtain ⟨ht, hti⟩ := tlook_spec hT htt
    have hm : P.underlying t = some (.map kt vt) := by
      have := hti.kind
      rw [← ht]
      exact kind_map this
    split at h
    · rename_i tk tv htk htv
      obtain ⟨rfl, htv'⟩ := tlook_spec hT htv
      obtain ⟨iv, hiv, _, _, z, hz, hzc⟩ := htv'.info
      have hzr : (zeroValue tv.t).run P w = .ok z w := by simp [zeroValue, typeInfo, hiv, hz]
      have hze := zero_enc (ρ := ρ) htv' hiv hz (hzc ρ)
      split at h
      · rename_i kl ka hkk
        have hK := keyKinds_spec hT htk hkk
        split at h
        · rename_i kc hkc
          split at h
          · rename_i kl' a hrow
            split at h
            · cases h
            · rename_i hkl
              simp only [ne_eq, Decidable.not_not] at hkl
              subst hkl
              have hkv := keyCells_val (ρ := ρ) (ks := (List.range kl'.length).map (a.den ρ)) hkc (by simp) (fun hk => by obtain ⟨k, h1, _⟩ := hK.one hk; exact ⟨k, h1⟩) (rowOf_spec hrow)
              split at h
              · rw [Option.map_eq_some_iff] at h
                obtain ⟨v, hv, rfl⟩ := h
                refine ⟨?_, rfl⟩
                have hvv := ofCells_encV (ρ := ρ) hv
                rw [hze] at hvv
                rw [hkv]
                have := run_lookup_nil (P := P) (w := w) hm hK (ks := (List.range kl'.length).map (a.den ρ)) (comma := comma) (by simp) hzr
                show (Instr.lookup t (.map none) _ comma).run P w = _
                rw [this]
                cases comma <;> simp [SV.val, SV.vals, hvv, BE.den]
              · rename_i b
                split at h
                · rename_i j b' kl2 ka2 va2 zero2 has cols hf
                  split at h
                  · rename_i hcond
                    obtain ⟨rfl, rfl, rfl, hzs⟩ := hcond
                    split at h
                    · rename_i es hes
                      rw [Option.map_eq_some_iff] at h
                      obtain ⟨v, hv, rfl⟩ := h
                      refine ⟨?_, rfl⟩
                      obtain ⟨hj, hat⟩ := findMap_spec hf
                      simp only [Ck.isMap, beq_iff_eq] at hat
                      subst hat
                      have hS := hrd j (by simp) _ hj
                      have hcs := colElems_cells ρ hes
                      rw [eKc_den, Int.toNat_natCast] at hcs
                      have hvv := ofCells_encV (ρ := ρ) hv
                      rw [hcs] at hvv
                      rw [hkv]
                      have hz2 := litSame_cells (ρ := ρ) hzs
                      rw [← hz2] at hze
                      have := run_lookup_map (P := P) (w := w) hm hK (ks := (List.range kl2.length).map (a.den ρ)) (comma := comma) (by simp) hS hzr hze
                      show (Instr.lookup t (.map (some (ρ.bv.getD b 0))) _ comma).run P w = _
                      rw [this]
                      cases comma with
                      | false => simp only [Bool.false_eq_true, if_false, hvv]
                      | true =>
                        simp only [if_true, SV.val, SV.vals, hvv, bNz_den, eSel_den, eKc_den, Int.toNat_natCast]
                    · cases h
                  · cases h
                · rename_i j b' kl2 ka2 va2 zero2 es hf
                  split at h
                  · rename_i hcond
                    obtain ⟨rfl, rfl, rfl, hzs⟩ := hcond
                    split at h
                    · rename_i n hlit
                      rw [Option.map_eq_some_iff] at h
                      obtain ⟨v, hv, rfl⟩ := h
                      refine ⟨?_, rfl⟩
                      obtain ⟨hj, hat⟩ := findMap_spec hf
                      simp only [Ck.isMap, beq_iff_eq] at hat
                      subst hat
                      have hS := hrd j (by simp) _ hj
                      rw [Ck.den_mapl] at hS
                      have hkn : n.toNat = kcode ((List.range kl2.length).map (a.den ρ)) := by
                        have := eKc_den (ρ := ρ) kl2.length a
                        rw [hlit] at this
                        simp only [E.den] at this
                        rw [this, Int.toNat_natCast]
                      have hvv := ofCells_encV (ρ := ρ) hv
                      rw [hkn] at hvv
                      rw [hkv]
                      have hz2 := litSame_cells (ρ := ρ) hzs
                      rw [← hz2] at hze
                      have := run_lookup_map (P := P) (w := w) hm hK (ks := (List.range kl2.length).map (a.den ρ)) (comma := comma) (by simp) hS hzr hze
                      show (Instr.lookup t (.map (some (ρ.bv.getD b 0))) _ comma).run P w = _
                      rw [this]
                      cases comma with
                      | false => simp only [Bool.false_eq_true, if_false, hvv]
                      | true => simp only [if_true, SV.val, SV.vals, hvv, BE.den, hkn]
                    · cases h
                  · cases h
                · cases h
              · cases h
          · cases h
        · cases h
      · cases h
    · cases h
  · cases h
theorem isAgg_enc {v : SV} {vs : List SV} (h : toCells v = some vs) : v.val ρ = encV (isAggV v) (SV.cellsL ρ vs) := by
  cases v with
  | agg cs =>
    simp only [toCells] at h
    split at h
    · cases h; rfl
    · cases h
  | seg k n a =>
    simp only [toCells, SV.one, if_true, Option.some.injEq] at h
    subst h
    simp [SV.val, SV.cellsL, SV.cells, isAggV, encV]
  | opt c v => simp [toCells, SV.one] at h
  | undef => simp [toCells, SV.one] at h
  | tup vs => simp [toCells, SV.one] at h
  | _ =>
    simp only [toCells, SV.one, if_true, Option.some.injEq] at h
    subst h
    rfl
theorem updateSym_sound (hT : checkT P T = true) {t : Nat} {x k v : SV} {res : Res} (h : updateSym T hp t x k v = some res) (hrd : Reads hp ρ w S res.rd) :
    res.val = .undef ∧ ∃ j ck, res.eff = .set j ck ∧ ∃ w', (Instr.mapUpdate t (x.val ρ) (k.val ρ) (v.val ρ)).run P w = .ok () w' ∧ Wrote P w ρ hp S j ck w' := by
  unfold updateSym at h
  split at h
  · rename_i kt vt sz by_ zr ly htt
    obtain ⟨ht, hti⟩ := tlook_spec hT htt
    have hm : P.underlying t = some (.map kt vt) := by
      have := hti.kind
      rw [← ht]
      exact kind_map this
    split at h
    · rename_i tk tv htk htv
      split at h
      · rename_i kl ka hkk
        have hK := keyKinds_spec hT htk hkk
        split at h
        · rename_i kc vs hkc hvs
          split at h
          · rename_i kl' a b hrow
            split at h
            · rename_i j b' kl2 ka2 va2 zero has cols hf
              split at h
              · rename_i hcond
                obtain ⟨rfl, rfl, rfl, hva, hlen, hagg⟩ := hcond
                split at h
                · rename_i cols' hput
                  cases h
                  have hkv := keyCells_val (ρ := ρ) (ks := (List.range kl2.length).map (a.den ρ)) hkc (by simp) (fun hk => by obtain ⟨k, h1, _⟩ := hK.one hk; exact ⟨k, h1⟩) (rowOf_spec hrow)
                  obtain ⟨hj, hat⟩ := findMap_spec hf
                  simp only [Ck.isMap, beq_iff_eq] at hat
                  subst hat
                  have hS := hrd j (by simp) _ hj
                  obtain ⟨p1, p2, p3, p4⟩ := colPuts_spec ρ hput
                  rw [eKc_den, Int.toNat_natCast] at p3 p4
                  have hvv := isAgg_enc (ρ := ρ) hvs
                  rw [hagg, ← hva] at hvv
                  have hfull : rowAt ρ cols' (kcode ((List.range kl2.length).map (a.den ρ))) = SV.cellsL ρ vs := by
                    rw [p4, List.drop_eq_nil_of_le, List.append_nil]
                    rw [show (rowAt ρ cols _).length = colsW cols from row_length ρ cols _, cellsL_length]
                    exact Nat.le_of_eq hlen.symm
                  obtain ⟨w', r1, r2, r3, r4, r5⟩ := run_update_map (P := P) (w := w) hm hK (ks := (List.range kl2.length).map (a.den ρ)) (by simp) hS (v.val ρ) (SV.cellsL ρ vs) hvv
                    (has' := fun q => !((E.upd has (eKc kl2.length a) (.lit 1)).den ρ q == 0)) (row' := fun i => (cols'.map (Col.cells ρ)).flatMap fun c => c i)
                    (fun q => by
                      simp only [E.den, eKc_den, Int.toNat_natCast]
                      split <;> simp_all)
                    (fun q => by
                      split
                      · rename_i hq
                        rw [hq]
                        exact hfull
                      · rename_i hq
                        exact p3 q hq)
                  refine ⟨rfl, j, _, rfl, w', ?_, ⟨⟨_, hj, rfl⟩, rfl, r2, r3, fun k hk => r4 k (fun e => hk ((hS.1 k).2 e)), r5⟩⟩
                  rw [hkv]
                  exact r1
                · cases h
              · cases h
            · rename_i j b' kl2 ka2 va2 zero es hf
              split at h
              · rename_i hcond
                obtain ⟨rfl, rfl, rfl, hva, hagg⟩ := hcond
                split at h
                · rename_i n hlit
                  cases h
                  have hkv := keyCells_val (ρ := ρ) (ks := (List.range kl2.length).map (a.den ρ)) hkc (by simp) (fun hk => by obtain ⟨k, h1, _⟩ := hK.one hk; exact ⟨k, h1⟩) (rowOf_spec hrow)
                  obtain ⟨hj, hat⟩ := findMap_spec hf
                  simp only [Ck.isMap, beq_iff_eq] at hat
                  subst hat
                  have hS := hrd j (by simp) _ hj
                  rw [Ck.den_mapl] at hS
                  have hkn : n.toNat = kcode ((List.range kl2.length).map (a.den ρ)) := by
                    have := eKc_den (ρ := ρ) kl2.length a
                    rw [hlit] at this
                    simp only [E.den] at this
                    rw [this, Int.toNat_natCast]
                  have hvv := isAgg_enc (ρ := ρ) hvs
                  rw [hagg, ← hva] at hvv
                  obtain ⟨w', r1, r2, r3, r4, r5⟩ := run_update_map (P := P) (w := w) hm hK (ks := (List.range kl2.length).map (a.den ρ)) (by simp) hS (v.val ρ) (SV.cellsL ρ vs) hvv
                    (has' := fun q => hasL (putL n.toNat vs es) q) (row' := fun q => SV.cellsL ρ (rowL (putL n.toNat vs es) zero q))
                    (fun q => by rw [hasL_put, ← hkn])
                    (fun q => by
                      simp only [rowL_put, ← hkn]
                      split <;> rfl)
                  refine ⟨rfl, j, _, rfl, w', ?_, ⟨⟨_, hj, rfl⟩, rfl, r2, r3, fun k hk => r4 k (fun e => hk ((hS.1 k).2 e)), by rw [Ck.den_mapl]; exact r5⟩⟩
                  rw [hkv]
                  exact r1
                · cases h
              · cases h
            · cases h
          · cases h
        · cases h
      · cases h
    · cases h
  · cases h
end
end Go.RX
