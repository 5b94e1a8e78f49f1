/- AuditLines: strings.Join. -/
import Derived.Test.YtgaabcinjbjbgaaGreatDoorAuPu
import Derived.Test.YtgaabcinjbjbgaaGreatDoorLyS
import Derived.Test.YtgaabcinjbjbgaaGreatDoorLyA

namespace Go.RX.Ln
open Go.RX Go.Proofs Go.RowKit

/-- The package's variables are as they are laid, below n0. -/
structure Laid0 (w0 : World) (n0 : Nat) : Prop where
  n : 8 ≤ n0
  max : ∃ m, w0.cell? ⟨0, 0, none⟩ = some (.int .i64 m)
  tab : Lib.TabIs Tryz.prog w0 "internal/strconv.uint64pow10" .u64 Lib.pow10Tab
  syn : ∃ te pe, w0.cell? ⟨2, 0, none⟩ = some (.iface te pe)
  rng : ∃ te pe, w0.cell? ⟨3, 0, none⟩ = some (.iface te pe)
theorem cell_same {w w0 : World} {b o : Nat} (h : w.heap[b]? = w0.heap[b]?) : w.cell? ⟨b, o, none⟩ = w0.cell? ⟨b, o, none⟩ := by
  simp only [World.cell?, h]
theorem pow10_at : Tryz.prog.globalNamed "internal/strconv.uint64pow10" = some 1 := by kernel_rfl
theorem Laid0.keep {w0 w : World} {n0 : Nat} (h : Laid0 w0 n0) (hk : ∀ k, k < n0 → w.heap[k]? = w0.heap[k]?) : Laid0 w n0 := by
  have hn := h.n
  refine ⟨hn, ?_, ?_, ?_, ?_⟩
  · rw [cell_same (hk 0 (by omega))]; exact h.max
  · have ht := h.tab
    unfold Lib.TabIs World.var? at ht ⊢
    rw [pow10_at] at ht ⊢
    simp only [Option.bind_some] at ht ⊢
    rw [hk 1 (by omega)]
    exact ht
  · rw [cell_same (hk 2 (by omega))]; exact h.syn
  · rw [cell_same (hk 3 (by omega))]; exact h.rng
theorem meets_kept {P : Program} {f : Nat} {args : List Value} {v : Value} {w0 : World} {n0 : Nat} (h : ∀ w, (∀ k, k < n0 → w.heap[k]? = w0.heap[k]?) → Calls P f args.toArray w fun e w' => e = .returned v ∧ Below w.heap.size w w') :
    Meets P f args [keptHP n0 w0] fun x hs => x = v ∧ hs = [keptHP n0 w0] :=
  Au.meets_below fun w Fs ho => by
    obtain ⟨S, hS⟩ := ho
    exact h w (hS.at_ 0 (keptHP n0 w0) rfl).1.2
theorem below_drewN {B : Nat} {a w : World} (h : Below B a w) (n : Nat) : Below B a (w.drewN n) := ⟨h.os, h.tape, h.output, h.size, h.block⟩
theorem below_grow (w : World) (os : Array Obj) : Below w.heap.size w (Sort.grow w os) := by
  refine ⟨rfl, rfl, rfl, by simp [Sort.grow], fun k hk => ?_⟩
  simp only [Sort.grow]
  rw [Array.getElem?_append_left hk]

variable {w0 : World} {n0 : Nat}
theorem itoa_meets (hL : Laid0 w0 n0) (n : Int) (h0 : -9223372036854775808 ≤ n) (h1 : n ≤ 9223372036854775807) : Meets Tryz.prog 35 [.int .i64 n] [keptHP n0 w0] fun x hs => x = strV (Lib.itoa n) ∧ hs = [keptHP n0 w0] :=
  meets_kept fun w hk => (Tryz.strconv_Itoa n h0 h1 w (hL.keep hk).tab).mono fun e w' ⟨he, k, os, hw⟩ => ⟨he, by
    subst hw
    exact (below_drewN (Below.refl _ w) k).trans (show Below w.heap.size (w.drewN k) _ from below_grow (w.drewN k) os)⟩
theorem cut_meets (hL : Laid0 w0 n0) (s sep : List UInt8) (hs : s.length < 4294967281) : Meets Tryz.prog 56 [strV s, strV sep] [keptHP n0 w0] fun x hs => x = .tuple #[strV (Lib.cut s sep).1, strV (Lib.cut s sep).2.1, .bool (Lib.cut s sep).2.2] ∧ hs = [keptHP n0 w0] :=
  meets_kept fun w hk => by
    obtain ⟨m, hm⟩ := (hL.keep hk).max
    exact (Tryz.strings_Cut ⟨s.toArray⟩ ⟨sep.toArray⟩ m w hs hm).mono fun e w' ⟨he, k, hw⟩ => ⟨he, by subst hw; exact below_drewN (Below.refl _ w) k⟩
theorem indexByte_meets (s : List UInt8) (c : Int) : Meets Tryz.prog 58 [strV s, .int .u8 c] [] fun x hs => x = .int .i64 (Lib.indexByte s c.toNat.toUInt8) ∧ hs = [] :=
  Au.meets_pure fun w => Tryz.strings_IndexByte ⟨s.toArray⟩ c w
theorem splitB_row (s sep : List UInt8) (n : Nat) : ∃ xs : List (List UInt8), Lib.splitB ⟨sep.toArray⟩ 0 n ⟨s.toArray⟩ = xs.map fun l => ⟨l.toArray⟩ :=
  ⟨(Lib.splitB ⟨sep.toArray⟩ 0 n ⟨s.toArray⟩).map fun b => b.data.toList, by rw [List.map_map]; simp [Function.comp_def]⟩
/-- strings.Split: a new slice of strings. -/
theorem split_meets (hL : Laid0 w0 n0) (s sep : List UInt8) (hs : s.length < 4294967281) (h1 : 1 ≤ sep.length) : Meets Tryz.prog 52 [strV s, strV sep] [keptHP n0 w0] fun x hs => ∃ b : Nat, ∃ xs : List (List UInt8), Lib.splitB ⟨sep.toArray⟩ 0 (Lib.countB ⟨s.toArray⟩ ⟨sep.toArray⟩) ⟨s.toArray⟩ = (xs.map fun l => ⟨l.toArray⟩) ∧
    x = .slice (some ⟨b, 0, none⟩) (Lib.countB ⟨s.toArray⟩ ⟨sep.toArray⟩ + 1) (Lib.countB ⟨s.toArray⟩ ⟨sep.toArray⟩ + 1) ∧ hs = [keptHP n0 w0, rowHP b true (xs.map strV)] := by
  intro w Fs ho
  obtain ⟨S, hS⟩ := ho
  have hk := (hS.at_ 0 (keptHP n0 w0) rfl).1.2
  obtain ⟨m, hm⟩ := (hL.keep hk).max
  obtain ⟨xs, hxs⟩ := splitB_row s sep (Lib.countB ⟨s.toArray⟩ ⟨sep.toArray⟩)
  refine (Tryz.strings_Split ⟨s.toArray⟩ ⟨sep.toArray⟩ m w hs hm h1).mono ?_
  rintro e w' ⟨rfl, rfl⟩
  refine ⟨_, _, rfl, ⟨w.heap.size, xs, hxs, rfl, rfl⟩, ?_, ?_⟩
  · refine Owns.add (a := [keptHP n0 w0]) ⟨S, hS⟩ (rowHP w.heap.size true (xs.map strV)) (fun k => k = w.heap.size) (by simp) (fun k hk => Below.heap_alloc w _ k hk) ⟨fun k => Iff.rfl, 9, (0, 0), ?_, fun _ => rfl⟩ (fun k hk => by subst hk; simp)
    rw [hxs]
    rw [List.map_map, show (Value.string ∘ fun l : List UInt8 => (⟨l.toArray⟩ : ByteArray)) = strV from rfl]
    exact heap_alloc_new w _
  · exact ⟨rfl, rfl, rfl, by simp⟩
end Go.RX.Ln

namespace Go.RX.Ln
open Go.RX Go.Proofs Go.RowKit
theorem join_meets (b : Nat) (xs : List (List UInt8)) (sep : List UInt8) (n : Nat) (hn : xs.length = n) (h1 : 1 ≤ n) (hl : (Lib.join xs sep).length ≤ 1000000) (hx : n ≤ 1000000) :
    Meets Tryz.prog 38 [.slice (some ⟨b, 0, none⟩) n n, strV sep] [rowHP b true (xs.map strV)] fun x hs => x = strV (Lib.join xs sep) ∧ hs = [rowHP b true (xs.map strV)] := by
  subst hn
  refine Au.meets_below fun w Fs ho => ?_
  obtain ⟨S, hS⟩ := ho
  obtain ⟨⟨h1', ty, fz, h2, _⟩, hlt⟩ := hS.at_ 0 (rowHP b true (xs.map strV)) rfl
  have hb : b < w.heap.size := hlt _ ((h1' _).2 rfl)
  have hcells : ∀ (q : Nat) x, (xs.map fun l => (⟨l.toArray⟩ : ByteArray))[q]? = some x → w.cell? ⟨b, 0 + q, none⟩ = some (.string x) := by
    intro q x hx
    simp only [World.cell?, h2, Nat.zero_add]
    rw [List.getElem?_map] at hx
    cases hq : xs[q]? with
    | none => rw [hq] at hx; cases hx
    | some y =>
      rw [hq] at hx
      cases hx
      simp [hq, strV]
  have he : ((xs.map fun l => (⟨l.toArray⟩ : ByteArray)).map (·.data.toList)) = xs := by
    rw [List.map_map]
    exact (List.map_congr_left fun _ _ => rfl).trans (List.map_id _)
  have := Tryz.strings_Join b 0 xs.length (xs.map fun l => ⟨l.toArray⟩) ⟨sep.toArray⟩ w hcells hb (by simp; omega) (by simp) (by rw [he]; exact Nat.le_trans hl (by decide))
  rw [he, List.length_map] at this
  exact this
end Go.RX.Ln
