/- What a row says of the library's variables, as the contracts ask it; the wrap of a row with the world's shape kept. -/
import Derived.Test.YtgaabcinjbjbgaaGreatDoorLyW
import Derived.Test.YtgaabcinjbjbgaaGreatDoorRows
import Derived.Handed
import Derived.SizedLaws
import Derived.Lib.LaidU8
import Derived.Shelf.Vars
import Derived.LaidLaws
namespace Go.RX
open Go Go.Proofs Go.RowKit

theorem returnsInHanded_shapedX {H : Type} {enc : TypeId × Value → H} {a : Assume} {C : Checked} {os : Os} {f : FuncId} {fn : Func} {s : ChangeSpec} {conds : List PathCond} {apart fresh handsOn again : Bool} {X : World → Array Value → Prop}
    (hX : ∀ (w w' : World) (args : Array Value), w.heap = w'.heap → X w args → X w' args)
    (own : ownKnob C.prog.godebug = none) (started : os.Started) (noInit : C.prog.inits.idxOf? f = none) (hfn : C.prog.funcs[f]? = some fn)
    (witness : ∃ (w : World) (tape : Tape) (i : Input), w.os = os ∧ (w.forCall tape i).Shaped C.prog ∧ i.vars = [] ∧ Input.okWide C.prog (w.forCall tape i) .any w.heap.size f i ∧
      ((s.pre enc C.prog fn conds apart (w.forCall tape i).memory i.args ∧ X (w.forCall tape i).memory i.args) ∧ sizedMet enc C.prog fn (OpenSpec.ofChange s) apart (w.forCall tape i).memory i.args) ∧ a.holds C.prog (lone (Frame.enter C.prog f i.args .normal) [] (w.forCall tape i)))
    (contract : ∀ (W : World) (base : Nat) (args : Array Value) (ds gs : List (DataW H)) (before : List MemPlace),
      (∀ (j : Nat) t v, fn.params[j]? = some t → args[j]? = some v → Value.okWide C.prog W .any base t v) →
      DataW.Whole enc C.prog fn.params.toList s.vars apart W args.toList ds gs before →
      conds.all (PathCond.test C.prog ⟨fn.params.toList, ds, s.plain.varTypes C.prog, gs⟩) = true →
      (DataW.weightsEach C.prog (fn.params.toList ++ s.plain.varTypes C.prog) (ds ++ gs)).all (· ≤ reachBytes) = true → X W args → W.ShapedOpen C.prog →
      a.holds C.prog (lone (Frame.enter C.prog f args .normal) [] W) →
      Calls C.prog f args W fun e W' => ∃ v, e = .returned v ∧ s.post enc C.prog fn apart fresh handsOn again W args v W') :
    ReturnsInHanded a C os f .any (fun w args => (s.pre enc C.prog fn conds apart w args ∧ X w args) ∧ sizedMet enc C.prog fn (OpenSpec.ofChange s) apart w args) (s.post enc C.prog fn apart fresh handsOn again) := by
  refine returnsInHanded_of_calls own started noInit witness ?_
  intro w tape i _ hsh _ hok hpre hholds
  obtain ⟨_, _, _, fn', hfn', _, _, _, _, hval⟩ := hok
  have e : fn' = fn := Option.some.inj (hfn'.symm.trans hfn)
  subst e
  obtain ⟨⟨⟨ds, gs, before, hw, hc⟩, hx⟩, hz⟩ := hpre
  have hw' := DataW.Whole.of_heap (w' := w.forCall tape i) (by rfl) hw
  refine (contract (w.forCall tape i) w.heap.size i.args ds gs before hval hw' hc (hz.weights hw) (hX _ _ _ (by rfl) hx) hsh hholds).mono fun e W' ⟨v, he, hp⟩ => ?_
  subst he
  exact ChangeSpec.post_blind hp

theorem trod_iface {H : Type} {enc : TypeId × Value → H} {P : Program} {w : World} {base : Nat} {sp : Nat → Bool} {held : Bool} {fuel : Nat} {t : TypeId} {ms : Array (String × TypeId)} {cs : List Value} {nm : String} {d : DataW H} {p : List MemPlace}
    (ht : P.underlying t = some (.interface ms)) (h : DataW.trod enc P w base sp held fuel t cs = some (.iface nm d, p)) : ∃ u v, cs = [.iface u v] := by
  cases fuel with
  | zero => simp [DataW.trod] at h
  | succ fuel =>
    simp only [DataW.trod, ht] at h
    split at h <;> simp_all
namespace Ln
theorem iface_var {W : World} {n : String} {nm : String} {d : DataW Unit} (g t : Nat) {ms : Array (String × TypeId)} (h : Lib.VarReads Tryz.prog W n (.iface nm d)) (hg : Tryz.prog.globalNamed n = some g) (ht : (Tryz.prog.globals[g]?).map (·.type) = some t) (hi : Tryz.prog.underlying t = some (.interface ms)) :
    ∃ te pe, W.cell? ⟨g, 0, none⟩ = some (.iface te pe) := by
  obtain ⟨g', t', cs, fuel, p, hg', ht', hv, htr⟩ := h
  obtain rfl := Option.some.inj (hg.symm.trans hg')
  obtain rfl := Option.some.inj (ht.symm.trans ht')
  obtain ⟨u, v, hcs⟩ := trod_iface hi htr
  refine ⟨u, v, ?_⟩
  have := World.var?_cell hg hv 0
  rw [this]
  have : cs = #[.iface u v] := by
    cases cs
    simpa using hcs
  rw [this]
  rfl
theorem var_lt {W : World} {n : String} {d : DataW Unit} (g : Nat) (h : Lib.VarReads Tryz.prog W n d) (hg : Tryz.prog.globalNamed n = some g) : g < W.heap.size := by
  obtain ⟨g', t', cs, fuel, p, hg', ht', hv, htr⟩ := h
  obtain rfl := Option.some.inj (hg.symm.trans hg')
  unfold World.var? at hv
  rw [hg] at hv
  simp only [Option.bind_some] at hv
  rcases Nat.lt_or_ge g W.heap.size with h | h
  · exact h
  · rw [Array.getElem?_eq_none h] at hv
    simp at hv
theorem pow_data : (YtgaabcinjbjbgaaGreatDoor.Rows.laid_internal_strconv_uint64pow10 : DataW Unit) = Lib.tabData .u64 Lib.pow10Tab := by kernel_rfl
/-- What is laid, out of the row's own words. -/
theorem laid0 {l : List (String × DataW Unit)} {W : World} (hL : laidMet Tryz.prog l W) (h1 : ("internal/strconv.uint64pow10", YtgaabcinjbjbgaaGreatDoor.Rows.laid_internal_strconv_uint64pow10) ∈ l)
    (h2 : ("strconv.ErrSyntax", YtgaabcinjbjbgaaGreatDoor.Rows.laid_strconv_ErrSyntax) ∈ l) (h3 : ("strconv.ErrRange", YtgaabcinjbjbgaaGreatDoor.Rows.laid_strconv_ErrRange) ∈ l) (h4 : ("math/bits.deBruijn64tab", YtgaabcinjbjbgaaGreatDoor.Rows.laid_math_bits_deBruijn64tab) ∈ l)
    (hsh : W.ShapedOpen Tryz.prog) : Laid0 W W.heap.size := by
  have r1 := Lib.laidMet.reads hL h1
  have r2 := Lib.laidMet.reads hL h2
  have r3 := Lib.laidMet.reads hL h3
  have r4 := Lib.laidMet.reads hL h4
  refine ⟨?_, cell_of_shapedOpen_int (zero := #[.int .i64 0]) (t := 3) hsh (of_decide_eq_true (by kernel_rfl)) (by kernel_rfl) rfl (by kernel_rfl) (by kernel_rfl) Tryz.underlying3, ?_, ?_, ?_⟩
  · have := var_lt 7 r4 (by kernel_rfl)
    omega
  · rw [pow_data] at r1
    obtain ⟨g', t', cs, fuel, p, hg', ht', hv, htr⟩ := r1
    have hg : Tryz.prog.globalNamed "internal/strconv.uint64pow10" = some 1 := by kernel_rfl
    obtain rfl := Option.some.inj (hg.symm.trans hg')
    unfold Lib.TabIs
    rw [hv]
    have ht : (Tryz.prog.globals[1]?).map (·.type) = some 240 := by kernel_rfl
    obtain rfl := Option.some.inj (ht.symm.trans ht')
    have hcs := Lib.cells_of_tab Tryz.underlying240 Tryz.underlying36 (by kernel_rfl) (by kernel_rfl) htr
    rw [← hcs]
  · exact iface_var 2 95 r2 (by kernel_rfl) (by kernel_rfl) Tryz.underlying95
  · exact iface_var 3 95 r3 (by kernel_rfl) (by kernel_rfl) Tryz.underlying95
end Ln
end Go.RX
