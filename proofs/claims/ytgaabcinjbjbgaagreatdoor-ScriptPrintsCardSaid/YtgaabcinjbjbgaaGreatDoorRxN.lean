/- A reflective symbolic executor, part 14: what one operation does, all of them. -/
import Derived.Test.YtgaabcinjbjbgaaGreatDoorRxM
namespace Go.RX

/-- What holds of a new block. -/
def newDen (ρ : Env) (nb r : Nat) : Ck → Option HP
  | .row b true cs => if b = nb then some (rowHP r true (SV.cellsL ρ cs)) else none
  | .map b kl ka va z has cols => if b = nb then some (mapHP r kl ka va (SV.cellsL ρ z) (fun i => !(has.den ρ i == 0)) fun i => (cols.map (Col.cells ρ)).flatMap fun c => c i) else none
  | .mapl b kl ka va z es => if b = nb then some (mapHP r kl ka va (SV.cellsL ρ z) (fun i => hasL es i) fun i => SV.cellsL ρ (rowL es z i)) else none
  | .bld b t e n a => if b = nb then some (bldHP r t e (segCells .u8 (n.den ρ 0).toNat (a.den ρ))) else none
  | .sit b l p => if b = nb then some (sitHP r l p) else none
  | _ => none
/-- What a run of an operation did, as its effect says. -/
def Did (P : Program) (ρ : Env) (w : World) (hp : List Ck) (S : Nat → Nat → Prop) (nb nv : Nat) (run : Result Next) (res : Res) : Prop :=
  match res.eff with
  | .none => run = .ok (.value (res.val.val ρ)) w
  | .new ck => ∃ w' hpr, newDen ρ nb w.heap.size ck = some hpr ∧ run = .ok (.value (res.val.val (ρ.addB w.heap.size))) w' ∧ Same w w' ∧ w'.heap.size = w.heap.size + 1 ∧
      (∀ k, k < w.heap.size → w'.heap[k]? = w.heap[k]?) ∧ hpr.p w' (fun k => k = w.heap.size)
  | .set j ck => ∃ w', (run = .ok (.value (res.val.val ρ)) w' ∨ (res.val = .undef ∧ run = .ok .skip w')) ∧ Wrote P w ρ hp S j ck w'
  | .app j ck => ∃ t s n cols v w' S', ck = .sli true nv t s n cols ∧ res.val = .vv nv ∧ run = .ok (.value v) w' ∧ v.oneCell' = true ∧
      (∃ ck0, hp[j]? = some ck0 ∧ (ck0.den ρ).wr = true) ∧ Same w w' ∧ (∀ k, k < w.heap.size → ¬ S j k → w'.heap[k]? = w.heap[k]?) ∧
      (sliHP true t s v (n.den ρ 0).toNat (tabCells ρ (n.den ρ 0).toNat cols)).p w' S' ∧ ∀ k, S' k → S j k ∨ (w.heap.size ≤ k ∧ k < w'.heap.size)
  | .own ck => ∃ t s n cols v w' S', ck = .sli true nv t s n cols ∧ res.val = .vv nv ∧ run = .ok (.value v) w' ∧ v.oneCell' = true ∧ Same w w' ∧ (∀ k, k < w.heap.size → w'.heap[k]? = w.heap[k]?) ∧
      (sliHP true t s v (n.den ρ 0).toNat (tabCells ρ (n.den ρ 0).toNat cols)).p w' S' ∧ ∀ k, S' k → w.heap.size ≤ k ∧ k < w'.heap.size
  | .lend ck => ∃ t s n cols v w' S', ck = .sli false nv t s n cols ∧ res.val = .vv nv ∧ run = .ok (.value v) w' ∧ v.oneCell' = true ∧ Same w w' ∧ (∀ k, k < w.heap.size → w'.heap[k]? = w.heap[k]?) ∧
      (sliHP false t s v (n.den ρ 0).toNat (tabCells ρ (n.den ρ 0).toNat cols)).p w' S' ∧ ∀ k, S' k → w.heap.size ≤ k ∧ k < w'.heap.size

section
variable {P : Program} {ρ : Env} {w : World} {look : Nat → Option SV} {vals : Operand → Value} {hp : List Ck} {S : Nat → Nat → Prop} {nb nv : Nat} {T : List TI}

theorem getD_addB (ρ : Env) (b : Nat) : (ρ.addB b).bv[ρ.bv.length]?.getD 0 = b := by
  simp [Env.addB]

theorem alloc_row (w : World) (cs : Array Value) (e : TypeId) (l : List Value) (hl : cs.toList = l) :
    Same w (w.alloc (.cells cs e)) ∧ (w.alloc (.cells cs e)).heap.size = w.heap.size + 1 ∧ (∀ k, k < w.heap.size → (w.alloc (.cells cs e)).heap[k]? = w.heap[k]?) ∧
      (rowHP w.heap.size true l).p (w.alloc (.cells cs e)) (fun k => k = w.heap.size) := by
  subst hl
  refine ⟨⟨rfl, rfl, rfl, by simp⟩, by simp, fun k hk => heap_alloc_old w _ hk, fun k => Iff.rfl, e, (0, 0), ?_, fun _ => rfl⟩
  have hn := heap_alloc_new w (.cells cs e)
  simpa using hn

theorem alloc_sound (hT : checkT P T = true) (hnb : ρ.bv.length = nb) {t : TypeId} {ti : TI} (ht : tlook T t = some ti) :
    Did P ρ w hp S nb nv ((do pure (.value (← Instr.alloc t true (.tuple #[]))) : Sem Next).run P w) { val := .ptr nb 0, eff := .new (.row nb true ti.zero) } := by
  obtain ⟨rfl, hti⟩ := tlook_spec hT ht
  obtain ⟨z, hz, hc⟩ := hti.zero w
  obtain ⟨h1, h2, h3, h4⟩ := alloc_row w z.cells ti.t (SV.cellsL ρ ti.zero) (hc ρ).symm
  refine ⟨_, _, if_pos rfl, ?_, h1, h2, h3, h4⟩
  subst hnb
  simp [Instr.alloc, hz, newVar, newRow, SV.val, getD_addB]

theorem bld_sound (hT : checkT P T = true) (hnb : ρ.bv.length = nb) {t : TypeId} {ti : TI} (ht : tlook T t = some ti) (e : Nat) (hz0 : SV.cellsL ρ ti.zero = [.pointer none, .slice none 0 0]) :
    Did P ρ w hp S nb nv ((do pure (.value (← Instr.alloc t true (.tuple #[]))) : Sem Next).run P w) { val := .ptr nb 0, eff := .new (.bld nb t e (.lit 0) (.lit 0)) } := by
  obtain ⟨rfl, hti⟩ := tlook_spec hT ht
  obtain ⟨z, hz, hc⟩ := hti.zero w
  obtain ⟨h1, h2, h3, h4⟩ := alloc_row w z.cells ti.t (SV.cellsL ρ ti.zero) (hc ρ).symm
  refine ⟨_, _, if_pos rfl, ?_, h1, h2, h3, ?_⟩
  · subst hnb
    simp [Instr.alloc, hz, newVar, newRow, SV.val, getD_addB]
  · have hzc : z.cells = #[.pointer none, .slice none 0 0] := Array.ext' (by rw [← hc ρ, hz0])
    refine ⟨.pointer none, .slice none 0 0, ?_, .inl rfl, ?_, by simp [Value.ownBlock], fun k => by simp [Value.ownBlock]⟩
    · have hn := heap_alloc_new w (.cells z.cells ti.t)
      rw [hzc] at hn
      rw [hzc]
      exact hn
    · simp only [E.den, Int.toNat_zero, segCells, List.range_zero, List.map_nil, List.length_nil]
      exact World.ownsRow_nil _ 0 e 1

theorem box_sound (hok : ρ.Ok) (hnb : ρ.bv.length = nb) {t : TypeId} {v : SV} {cs : List SV} (hcs : toCells v = some cs) :
    Did P ρ w hp S nb nv ((do pure (.value (← Instr.box t (v.val ρ))) : Sem Next).run P w) { val := .ptr nb 0, eff := .new (.row nb true cs) } := by
  obtain ⟨h1, h2, h3, h4⟩ := alloc_row w (v.val ρ).cells t (SV.cellsL ρ cs) (toCells_cells ρ hcs hok).1
  refine ⟨_, _, if_pos rfl, ?_, h1, h2, h3, h4⟩
  subst hnb
  simp [Instr.box, newVar, newRow, SV.val, getD_addB]

theorem part_sound {ti : TI} (hti : TInfo P ti) {cs x : List SV} {off : Nat} {v : SV} (hx : rowCut off ti.size cs = some x) (hv : ofCells ti.k.agg x = some v) :
    (part ti.t (SV.cellsL ρ cs).toArray off).run P w = .ok (v.val ρ) w := by
  obtain ⟨h1, h2⟩ := rowCut_cells ρ hx
  obtain ⟨h3, h4⟩ := ofCells_val ρ hv
  cases ha : ti.k.agg with
  | true =>
    simp only [part, Sem.run_bind, hti.isAgg w, ha, Result.andThen_ok, if_true, hti.sizeOf w, Sem.run_pure, h3 ha, h1]
    congr 3
    apply Array.ext'
    simp [List.extract_eq_take_drop]
  | false =>
    have h5 := h4 ha
    rw [h1] at h5
    have h6 : (SV.cellsL ρ cs)[off]? = some (v.val ρ) := by
      have : (((SV.cellsL ρ cs).drop off).take ti.size)[0]? = some (v.val ρ) := by rw [h5]; rfl
      rw [List.getElem?_take, List.getElem?_drop] at this
      split at this
      · simpa using this
      · cases this
    simp [part, hti.isAgg w, ha, h6]

theorem places_spec (hT : checkT P T = true) : ∀ (fs : List Field) (l : List (Nat × Nat)), fs.map (fun f => (f.type, f.offset)) = l → tlookAll T l = true →
    ∃ places, fs.mapM (fun f => (P.info? f.type).map fun i => (f.offset, i.size)) = some places ∧ ∀ i, places[i]? = fieldPlaces T l i
  | [], l, h, _ => by
    subst h
    exact ⟨[], rfl, fun i => by simp [fieldPlaces]⟩
  | f :: r, l, h, ha => by
    subst h
    simp only [tlookAll, List.map_cons, List.all_cons, Bool.and_eq_true] at ha
    obtain ⟨p, hp, hpl⟩ := places_spec hT r _ rfl (by simpa [tlookAll] using ha.2)
    obtain ⟨ti, hti⟩ := Option.isSome_iff_exists.1 ha.1
    obtain ⟨ht, hi⟩ := tlook_spec hT hti
    obtain ⟨i, h1, h2, _⟩ := hi.info
    rw [ht] at h1
    refine ⟨(f.offset, i.size) :: p, ?_, fun k => ?_⟩
    · simp [List.mapM_cons, h1, hp]
    · cases k with
      | zero => simp [fieldPlaces, hti, h2]
      | succ k => rw [List.getElem?_cons_succ, hpl k]; simp [fieldPlaces]

theorem build_struct_sound (hT : checkT P T = true) {ti : TI} {t : TypeId} (ht : tlook T t = some ti) {fs : List (Nat × Nat)} (hk : ti.k = .struct fs) (hall : tlookAll T fs = true)
    {ps : List (Nat × List SV)} {vs : Array (Nat × Value)} (hm : PartsMatch ρ ps vs.toList) {cs : List SV} (hf : fillSym (fieldPlaces T fs) ti.zero ps = some cs) :
    (Instr.build t vs).run P w = .ok (.agg (SV.cellsL ρ cs).toArray) w := by
  obtain ⟨rfl, hti⟩ := tlook_spec hT ht
  obtain ⟨i, hi, _, _, z, hz, hc⟩ := hti.info
  have hkk := hti.kind
  rw [hk] at hkk
  obtain ⟨fa, hu, hfa⟩ := kind_struct hkk
  obtain ⟨places, hp, hpl⟩ := places_spec hT fa.toList fs hfa hall
  obtain ⟨r, hr, hrl⟩ := fill_spec (ρ := ρ) (fieldPlaces T fs) hm hf (hc ρ).symm
  have hb : P.built ti.t vs.toList = some r := by
    unfold Program.built
    simp only [hi, hu, hz, hp]
    rw [← hr]
    congr 1
    funext k
    rw [← hpl k]
    simp
  rw [run_build w ti.t vs r hb]
  congr 2
  exact Array.ext' (by simpa using hrl)

theorem build_arr_sound (hT : checkT P T = true) {ti te : TI} {t : TypeId} (ht : tlook T t = some ti) {n e : Nat} (hk : ti.k = .arr n e) (hte : tlook T e = some te)
    {ps : List (Nat × List SV)} {vs : Array (Nat × Value)} (hm : PartsMatch ρ ps vs.toList) {cs : List SV} (hf : fillSym (elemPlaces te.size) ti.zero ps = some cs) :
    (Instr.build t vs).run P w = .ok (.agg (SV.cellsL ρ cs).toArray) w := by
  obtain ⟨rfl, hti⟩ := tlook_spec hT ht
  obtain ⟨rfl, htie⟩ := tlook_spec hT hte
  obtain ⟨i, hi, _, _, z, hz, hc⟩ := hti.info
  obtain ⟨ie, hie, hse, _⟩ := htie.info
  have hkk := hti.kind
  rw [hk] at hkk
  have hu := kind_arr hkk
  obtain ⟨r, hr, hrl⟩ := fill_spec (ρ := ρ) (elemPlaces te.size) hm hf (hc ρ).symm
  have hb : P.built ti.t vs.toList = some r := by
    unfold Program.built
    simp only [hi, hu, hz, hie, hse]
    exact hr
  rw [run_build w ti.t vs r hb]
  congr 2
  exact Array.ext' (by simpa using hrl)

theorem rep_cells (n : Nat) (l : List SV) : SV.cellsL ρ (List.replicate n l).flatten = (List.replicate n (SV.cellsL ρ l)).flatten := by
  induction n with
  | zero => rfl
  | succ n ih => rw [List.replicate_succ, List.replicate_succ, List.flatten_cons, List.flatten_cons, cellsL_append, ih]

theorem rep_mod (z : Array Value) (len : Nat) (_ : 0 < z.size) : ((Array.range (len * z.size)).map (z[· % z.size]!)).toList = (List.replicate len z.toList).flatten := by
  rw [Array.toList_map, Array.toList_range]
  induction len with
  | zero => simp
  | succ n ih =>
    rw [List.replicate_succ', List.flatten_append, ← ih, Nat.add_mul, Nat.one_mul, List.range_add, List.map_append]
    congr 1
    rw [List.map_map, List.flatten_singleton]
    apply List.ext_getElem
    · simp
    · intro i h1 h2
      have hi : i < z.size := by simpa using h2
      simp [Nat.add_mod, Nat.mod_eq_of_lt hi, hi]

theorem buildSlice_sound (hT : checkT P T = true) (hnb : ρ.bv.length = nb) {ti te : TI} {t : TypeId} (ht : tlook T t = some ti) {e : Nat} (hk : ti.k = .slice e) (hte : tlook T e = some te) {len : Nat}
    (hlen : ¬ (len = 0 ∨ te.size = 0 ∨ 1000 < len * te.size)) {ps : List (Nat × List SV)} {vs : Array (Nat × Value)} (hm : PartsMatch ρ ps vs.toList) {cs : List SV}
    (hf : fillSym (elemPlaces te.size) (List.replicate len te.zero).flatten ps = some cs) :
    Did P ρ w hp S nb nv ((do pure (.value (← Instr.buildSlice t len vs)) : Sem Next).run P w)
      { val := .sl nb (.lit 0) te.size (.lit len) (.lit len), eff := .new (.row nb true cs) } := by
  obtain ⟨rfl, hti⟩ := tlook_spec hT ht
  obtain ⟨rfl, htie⟩ := tlook_spec hT hte
  obtain ⟨ie, hie, hse, _, z, hz, hc⟩ := htie.info
  have hkk := hti.kind
  rw [hk] at hkk
  have hu := kind_slice hkk
  have hzs : z.cells.size = te.size := by
    rw [← Array.length_toList, ← hc ρ, cellsL_length, htie.zlen]
  have hrep : ((Array.range (len * ie.size)).map (z.cells[· % z.cells.size]!)).toList = SV.cellsL ρ (List.replicate len te.zero).flatten := by
    rw [rep_cells, hc ρ, hse, ← hzs]
    exact rep_mod _ _ (by omega)
  obtain ⟨r, hr, hrl⟩ := fill_spec (ρ := ρ) (elemPlaces te.size) hm hf hrep
  have hpos : ¬ len * ie.size = 0 := by rw [hse]; simp only [Nat.mul_eq_zero]; omega
  have hb := run_buildSlice (P := P) w ti.t te.t len vs r ie z hu hie hz (by rw [hse]; omega) hpos (by rw [← hr, hse]; rfl)
  obtain ⟨h1, h2, h3, h4⟩ := alloc_row w r te.t (SV.cellsL ρ cs) hrl
  refine ⟨_, _, if_pos rfl, ?_, h1, h2, h3, h4⟩
  subst hnb
  simp [hb, SV.val, getD_addB, E.den]

end
end Go.RX
