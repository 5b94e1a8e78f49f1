/- The comparison of two moves: what the function leaves to be shown; printed by a program of ours (wip/tools). · The comparison of two moves, over the memory of their bytes. · The comparison of two rows of moves. · ScriptBack: printing moves, over what is laid; of a slice that is looked at, and of moves that were read. · ScriptBack: moves that were read, compared with those of a slice that is looked at. · ScriptReads: what the law leaves to be shown; printed by a program of ours (wip/tools). -/
import Derived.Test.YtgaabcinjbjbgaaDoorM25
import Derived.Test.YtgaabcinjbjbgaaDoorM36
import Derived.Test.YtgaabcinjbjbgaaDoorM26
import Derived.Test.YtgaabcinjbjbgaaDoorM38
import Derived.Test.YtgaabcinjbjbgaaDoorM35
import Derived.Test.YtgaabcinjbjbgaaDoorM40
import Derived.Test.YtgaabcinjbjbgaaDoorM37

namespace Go.RX.Sx
open Go.RX Go.Proofs
noncomputable def cx : Ctx := { T := TT, FT := FT }
set_option maxRecDepth 100000
noncomputable def fm_same : F := runF cx 11 ([SV.agg [SV.int (Go.IntKind.u8) (E.var 0), SV.int (Go.IntKind.u8) (E.var 1), SV.int (Go.IntKind.u8) (E.var 2), SV.int (Go.IntKind.u8) (E.var 3), SV.int (Go.IntKind.u8) (E.var 4), SV.int (Go.IntKind.i64) (E.var 5), SV.int (Go.IntKind.u64) (E.var 6), SV.vv 0], SV.agg [SV.int (Go.IntKind.u8) (E.var 7), SV.int (Go.IntKind.u8) (E.var 8), SV.int (Go.IntKind.u8) (E.var 9), SV.int (Go.IntKind.u8) (E.var 10), SV.int (Go.IntKind.u8) (E.var 11), SV.int (Go.IntKind.i64) (E.var 12), SV.int (Go.IntKind.u64) (E.var 13), SV.vv 1]]) ([Ck.sli false 0 5 1 (E.var 14) [{ ck := CK.int (Go.IntKind.u8), w := 1, a := E.avar 0 }], Ck.sli false 1 5 1 (E.var 15) [{ ck := CK.int (Go.IntKind.u8), w := 1, a := E.avar 1 }]]) ({ b := 0, v := 2, i := 16, a := 2, bo := 0, p := 0, r := 0 }) Tryd.f11
def st_same (_ : Program) (Post : Value → List HP → Prop) (x0 : Int) (x1 : Int) (x2 : Int) (x3 : Int) (x4 : Int) (x5 : Int) (x6 : Int) (x7 : Int) (x8 : Int) (x9 : Int) (x10 : Int) (x11 : Int) (x12 : Int) (x13 : Int) (x14 : Int) (x15 : Int) (A0 : Nat → Int) (A1 : Nat → Int) (v0 : V1) (v1 : V1) : Prop :=
 ∀ _ : Nat, ∀ _ : Nat, Post (.bool ((((((x0 == x7) && ((x1 == x8) && (x2 == x9))) && ((x3 == x10) && (x4 == x11))) && (x5 == x12)) && (x6 == x13)) && (strD (bytF A0 x14) == strD (bytF A1 x15)))) [sliHP false 5 1 v0.v (Int.toNat x14) (tabL (Int.toNat x14) [colI .u8 1 A0]), sliHP false 5 1 v1.v (Int.toNat x15) (tabL (Int.toNat x15) [colI .u8 1 A1])]
theorem vc_same (P : Program) (Post : Value → List HP → Prop) (x0 : Int) (x1 : Int) (x2 : Int) (x3 : Int) (x4 : Int) (x5 : Int) (x6 : Int) (x7 : Int) (x8 : Int) (x9 : Int) (x10 : Int) (x11 : Int) (x12 : Int) (x13 : Int) (x14 : Int) (x15 : Int) (A0 : Nat → Int) (A1 : Nat → Int) (v0 : V1) (v1 : V1) (L : Nat → LC) : VC P (fun v hs => Post v (hs.take 2)) fm_same { iv := [x0, x1, x2, x3, x4, x5, x6, x7, x8, x9, x10, x11, x12, x13, x14, x15], av := [A0, A1], bo := [], bv := [], vv := [v0, v1] } L = st_same P Post x0 x1 x2 x3 x4 x5 x6 x7 x8 x9 x10 x11 x12 x13 x14 x15 A0 A1 v0 v1 := by kernel_rfl
theorem run_same : runF cx 11 ([SV.agg [SV.int (Go.IntKind.u8) (E.var 0), SV.int (Go.IntKind.u8) (E.var 1), SV.int (Go.IntKind.u8) (E.var 2), SV.int (Go.IntKind.u8) (E.var 3), SV.int (Go.IntKind.u8) (E.var 4), SV.int (Go.IntKind.i64) (E.var 5), SV.int (Go.IntKind.u64) (E.var 6), SV.vv 0], SV.agg [SV.int (Go.IntKind.u8) (E.var 7), SV.int (Go.IntKind.u8) (E.var 8), SV.int (Go.IntKind.u8) (E.var 9), SV.int (Go.IntKind.u8) (E.var 10), SV.int (Go.IntKind.u8) (E.var 11), SV.int (Go.IntKind.i64) (E.var 12), SV.int (Go.IntKind.u64) (E.var 13), SV.vv 1]]) ([Ck.sli false 0 5 1 (E.var 14) [{ ck := CK.int (Go.IntKind.u8), w := 1, a := E.avar 0 }], Ck.sli false 1 5 1 (E.var 15) [{ ck := CK.int (Go.IntKind.u8), w := 1, a := E.avar 1 }]]) ({ b := 0, v := 2, i := 16, a := 2, bo := 0, p := 0, r := 0 }) Tryd.f11 = fm_same := rfl
end Go.RX.Sx

namespace Go.RX.Sx
open Go Go.RX Go.Proofs Go.RX.Ln Go.RX.Su Go.RX.Sv
def sameM (a b : Mv) : Bool := (((((a.k == b.k) && ((a.d1 == b.d1) && (a.d2 == b.d2))) && ((a.p1 == b.p1) && (a.p2 == b.p2))) && (a.n == b.n)) && (a.c == b.c)) && (a.b == b.b)
theorem byt_of (l : List UInt8) : strD (bytF (byF l) l.length) = l := by
  rw [strD_bytF]
  apply List.ext_getElem?
  intro j
  rw [List.getElem?_map, Int.toNat_natCast]
  by_cases hj : j < l.length
  · rw [List.getElem?_range hj, List.getElem?_eq_getElem hj, Option.map_some, byF, List.getD_eq_getElem?_getD, List.getElem?_eq_getElem hj, Option.getD_some, Int.toNat_natCast, UInt8.ofNat_toNat]
  · rw [List.getElem?_eq_none (by simpa using hj), List.getElem?_eq_none (by simpa using hj)]
    rfl
def vHP (e : Int) (l : List UInt8) : HP := sliHP false 5 1 (bslV e) l.length (byC l)
def mvG (m : Mv) (v : V1) : Value := .agg #[.int .u8 m.k, .int .u8 m.d1, .int .u8 m.d2, .int .u8 m.p1, .int .u8 m.p2, .int .i64 m.n, .int .u64 m.c, v.v]
theorem same_gen (a b : Mv) (u v : V1) : Meets Tryd.prog 11 [mvG a u, mvG b v] [sliHP false 5 1 u.v a.b.length (byC a.b), sliHP false 5 1 v.v b.b.length (byC b.b)] fun x _ => x = .bool (sameM a b) := by
  have h := Meets.of_runE (C := cx) (cnt := { i := 16, a := 2, v := 2 })
    (ρ := { iv := [a.k, a.d1, a.d2, a.p1, a.p2, a.n, a.c, b.k, b.d1, b.d2, b.p1, b.p2, b.n, b.c, (a.b.length : Int), (b.b.length : Int)], av := [byF a.b, byF b.b], vv := [u, v] }) okT okFT okM Tryd.func11 (by constructor <;> rfl)
    (Post := fun x _ => x = .bool (sameM a b))
    (args := [.agg [.int .u8 (.var 0), .int .u8 (.var 1), .int .u8 (.var 2), .int .u8 (.var 3), .int .u8 (.var 4), .int .i64 (.var 5), .int .u64 (.var 6), .vv 0], .agg [.int .u8 (.var 7), .int .u8 (.var 8), .int .u8 (.var 9), .int .u8 (.var 10), .int .u8 (.var 11), .int .i64 (.var 12), .int .u64 (.var 13), .vv 1]])
    (hp := [.sli false 0 5 1 (.var 14) [⟨.int .u8, 1, .avar 0⟩], .sli false 1 5 1 (.var 15) [⟨.int .u8, 1, .avar 1⟩]]) run_same
    (vc_same Tryd.prog (fun x _ => x = .bool (sameM a b)) a.k a.d1 a.d2 a.p1 a.p2 a.n a.c b.k b.d1 b.d2 b.p1 b.p2 b.n b.c a.b.length b.b.length (byF a.b) (byF b.b) u v (fun _ => LC.none)) ?_
  · exact h
  unfold st_same
  rw [byt_of, byt_of]
  exact fun _ _ => rfl
theorem same_view (a b : Mv) (e f : Int) : Meets Tryd.prog 11 [mvV a e, mvV b f] [vHP e a.b, vHP f b.b] fun x _ => x = .bool (sameM a b) := same_gen a b ⟨bslV e, bslV_one e⟩ ⟨bslV f, bslV_one f⟩
theorem own_view {e : Int} {l : List UInt8} {w : World} {S : Nat → Prop} (h : (bHP (e, l)).p w S) (hb : ∀ k, S k → k < w.heap.size) : ∃ S : Nat → Prop, (vHP e l).p w S ∧ ∀ k, S k → k < w.heap.size := by
  obtain ⟨ho, hS⟩ := h
  simp only [if_true] at ho
  refine ⟨fun k => (bslV e).ownBlock = some k ∧ (false = true ∨ 0 < l.length), ⟨?_, fun k => Iff.rfl⟩, fun k hk => hb k ((hS k).2 ⟨hk.1, .inl rfl⟩)⟩
  simp only [Bool.false_eq_true, if_false]
  refine ⟨ho.1, ?_⟩
  rcases ho.2 with ⟨hv, hn⟩ | ⟨g, o, cap, cur, hv, hg, hnc, hcm, hcs, htk⟩
  · exact ⟨none, 0, 0, hv, hn.symm, Nat.le_refl _, (fun _ => hn), fun ad had => by cases had⟩
  · refine ⟨some ⟨g, o, none⟩, l.length, cap, hv, rfl, hnc, (fun h => by cases h), fun ad had => ?_⟩
    cases had
    refine ⟨fun _ => rfl, ?_⟩
    rw [show bslV (e, l).1 = bslV e from rfl, hv] at ho
    exact ownsAt_cells ho
theorem set_view {K : BSet} {e : Int} {l : List UInt8} {w : World} {S : Nat → Prop} (h : (setHP K).p w S) (hb : ∀ k, S k → k < w.heap.size) (hH : Has K e l) : ∃ S : Nat → Prop, (vHP e l).p w S ∧ ∀ k, S k → k < w.heap.size := by
  rcases hH with ⟨rfl, rfl⟩ | hm
  · refine ⟨fun _ => False, ⟨?_, fun k => ⟨False.elim, fun h => by simp [bslV_nil, Value.ownBlock] at h⟩⟩, fun k h => h.elim⟩
    simp only [Bool.false_eq_true, if_false]
    exact ⟨rfl, none, 0, 0, rfl, rfl, Nat.le_refl _, fun _ => rfl, fun ad had => by cases had⟩
  · obtain ⟨T, hT, hS⟩ := h
    obtain ⟨i, hi, he⟩ := List.getElem_of_mem hm
    have hx : (K.map bHP)[i]? = some (bHP (e, l)) := by rw [List.getElem?_map, List.getElem?_eq_getElem hi, he]; rfl
    obtain ⟨hp, hb'⟩ := hT.at_ i _ hx
    exact own_view hp hb'
theorem same_meets (a b : Mv) (e f : Int) (K K' : BSet) (h1 : Has K e a.b) (h2 : Has K' f b.b) : Meets Tryd.prog 11 [mvV a e, mvV b f] [setHP K, setHP K'] fun x hs => x = .bool (sameM a b) ∧ hs = [setHP K, setHP K'] := by
  refine Meets.lookIn (L := [vHP e a.b, vHP f b.b]) (Q := fun x => x = .bool (sameM a b)) ?_ (same_view a b e f) _ ?_
  · intro h hm
    simp only [List.mem_cons, List.not_mem_nil, or_false] at hm
    rcases hm with rfl | rfl <;> rfl
  · intro w Fs ho h hm
    obtain ⟨S, hS⟩ := ho
    have s1 := hS.at_ 0 (setHP K) rfl
    have s2 := hS.at_ 1 (setHP K') rfl
    simp only [List.mem_cons, List.not_mem_nil, or_false] at hm
    rcases hm with rfl | rfl
    · exact set_view s1.1 s1.2 h1
    · exact set_view s2.1 s2.2 h2
end Go.RX.Sx

namespace Go.RX.Sy
open Go Go.RX Go.Proofs Go.RX.Ln Go.RX.Su Go.RX.Sv Go.RX.Sx
def MvT (K : BSet) (xs : List Mv) (A1 A2 A3 A4 A5 A6 A7 A8 : Nat → Int) : Prop :=
  ∀ j x, xs[j]? = some x → (A1 j = x.k ∧ A2 j = x.d1 ∧ A3 j = x.d2 ∧ A4 j = x.p1 ∧ A5 j = x.p2 ∧ A6 j = x.n ∧ A7 j = x.c) ∧ Has K (A8 j) x.b
def upS (xs ys : List Mv) (n : Nat) : Bool := (List.range n).all fun j => sameM (xs.getD j (Mv.z 0)) (ys.getD j (Mv.z 0))
def sameL (xs ys : List Mv) : Bool := ((xs.length : Int) == ys.length) && upS xs ys xs.length
theorem upS_succ (xs ys : List Mv) (n : Nat) : upS xs ys (n + 1) = (upS xs ys n && sameM (xs.getD n (Mv.z 0)) (ys.getD n (Mv.z 0))) := by
  unfold upS
  rw [List.range_succ, List.all_append]
  simp
theorem upS_false (xs ys : List Mv) (n m : Nat) (h : n ≤ m) (hf : upS xs ys n = false) : upS xs ys m = false := by
  obtain ⟨d, rfl⟩ := Nat.exists_eq_add_of_le h
  clear h
  induction d with
  | zero => exact hf
  | succ d ih => rw [← Nat.add_assoc, upS_succ, ih]; rfl
theorem rows_meets (K K' : BSet) (v u : V1) (xs ys : List Mv) (A0 A1 A2 A3 A4 A5 A6 A7 B0 B1 B2 B3 B4 B5 B6 B7 : Nat → Int) (hx : MvT K xs A0 A1 A2 A3 A4 A5 A6 A7) (hy : MvT K' ys B0 B1 B2 B3 B4 B5 B6 B7) (hl : xs.length ≤ 1000000) :
    Meets Tryd.prog 9 [v.v, u.v] [setHP K, setHP K', sliHP true 36 8 v.v xs.length (tabM xs.length A0 A1 A2 A3 A4 A5 A6 A7), sliHP true 36 8 u.v ys.length (tabM ys.length B0 B1 B2 B3 B4 B5 B6 B7)]
      fun x hs => x = .bool (sameL xs ys) ∧ hs = [setHP K, setHP K', sliHP true 36 8 v.v xs.length (tabM xs.length A0 A1 A2 A3 A4 A5 A6 A7), sliHP true 36 8 u.v ys.length (tabM ys.length B0 B1 B2 B3 B4 B5 B6 B7)] := by
  have h := Meets.of_runE (C := cx) (cnt := { i := 2, a := 16, v := 2, p := 2 })
    (ρ := { iv := [(xs.length : Int), (ys.length : Int)], av := [A0, A1, A2, A3, A4, A5, A6, A7, B0, B1, B2, B3, B4, B5, B6, B7], vv := [v, u], pv := [setHP K, setHP K'] }) okT okFT okM Tryd.func9 (by constructor <;> rfl)
    (Post := fun x hs => x = .bool (sameL xs ys) ∧ hs.take 4 = [setHP K, setHP K', sliHP true 36 8 v.v xs.length (tabM xs.length A0 A1 A2 A3 A4 A5 A6 A7), sliHP true 36 8 u.v ys.length (tabM ys.length B0 B1 B2 B3 B4 B5 B6 B7)])
    (args := [.vv 0, .vv 1]) (hp := hpR) run_rows
    (vc_rows Tryd.prog (fun x hs => x = .bool (sameL xs ys) ∧ hs = [setHP K, setHP K', sliHP true 36 8 v.v xs.length (tabM xs.length A0 A1 A2 A3 A4 A5 A6 A7), sliHP true 36 8 u.v ys.length (tabM ys.length B0 B1 B2 B3 B4 B5 B6 B7)]) xs.length ys.length A0 A1 A2 A3 A4 A5 A6 A7 B0 B1 B2 B3 B4 B5 B6 B7 v u (setHP K) (setHP K') (fun _ => LC.none)) ?_
  · exact Meets.post h fun x hs hq => ⟨hs.take 4, Ent.sub (List.take_sublist 4 hs), hq⟩
  unfold st_rows
  refine ⟨by omega, fun _ => ⟨by omega, fun _ => ?_⟩⟩
  refine ⟨fun e => 0 ≤ e.i.getD 0 0 ∧ e.i.getD 0 0 ≤ xs.length ∧ e.bo.getD 0 false = (((xs.length : Int) == ys.length) && upS xs ys (e.i.getD 0 0).toNat), fun e => ((xs.length : Int) - e.i.getD 0 0).toNat, ⟨0, _, rfl, rfl, by simp, by simp, by simp [upS]⟩, ?_⟩
  rintro i q ⟨hi0, hi1, hq⟩
  simp only [List.getD_cons_zero] at hi0 hi1 hq
  refine ⟨by omega, fun _ => ⟨fun hc => ?_, fun hc => ?_⟩⟩
  · obtain ⟨hlt, hqt⟩ := hc
    rw [hqt] at hq
    have hq' := hq.symm
    rw [Bool.and_eq_true, beq_iff_eq] at hq'
    have hix : i.toNat < xs.length := by omega
    have hiy : i.toNat < ys.length := by omega
    obtain ⟨⟨x1, x2, x3, x4, x5, x6, x7⟩, xb⟩ := hx i.toNat _ (List.getElem?_eq_getElem hix)
    obtain ⟨⟨y1, y2, y3, y4, y5, y6, y7⟩, yb⟩ := hy i.toNat _ (List.getElem?_eq_getElem hiy)
    rw [x1, x2, x3, x4, x5, x6, x7, y1, y2, y3, y4, y5, y6, y7]
    refine ⟨hi0, fun _ => ⟨hlt, fun _ => ⟨by omega, fun _ => ⟨_, same_meets _ _ _ _ K K' xb yb, ?_⟩⟩⟩⟩
    rintro x hs ⟨rfl, rfl⟩
    refine ⟨_, rfl, rfl, by omega, fun _ => ⟨by omega, fun _ => ⟨i + 1, _, rfl, rfl, ⟨?_, ?_, ?_⟩, ?_⟩⟩⟩
    all_goals simp only [List.getD_cons_zero]
    · omega
    · omega
    · rw [show (i + 1).toNat = i.toNat + 1 by omega, upS_succ, hq'.2, hq'.1]
      simp [List.getD_eq_getElem?_getD, List.getElem?_eq_getElem hix, List.getElem?_eq_getElem hiy]
    · omega
  · refine ⟨?_, rfl⟩
    congr 1
    unfold sameL
    by_cases hi : i < xs.length
    · have hqf : q = false := by cases q; rfl; exact absurd ⟨hi, rfl⟩ hc
      rw [hqf] at hq ⊢
      rcases Bool.and_eq_false_iff.1 hq.symm with h | h
      · rw [h]; rfl
      · rw [upS_false xs ys _ xs.length (by omega) h, Bool.and_false]
    · rw [hq, show i.toNat = xs.length by omega]
end Go.RX.Sy

namespace Go.RX.Bk
open Go Go.RX Go.Proofs Go.RX.Ln Go.RX.Lp Go.RX.Lf Go.RX.Sp Go.RX.Sv Go.RX.Sx Go.RX.Sy Go.RX.Sq Go.RowKit
variable {w0 : World} {n0 : Nat}
def moveOf (M : Sq.Mv) (i : Nat) : Su.Mv := ⟨M.A 0 i, M.A 1 i, M.A 2 i, M.A 3 i, M.A 4 i, M.A 5 i, M.A 6 i, M.B i⟩
def movesOf (M : Sq.Mv) : List Su.Mv := (List.range M.n).map (moveOf M)
theorem lines_moves (M : Sq.Mv) : linesOf M = (movesOf M).map lineOf := by
  unfold linesOf movesOf
  rw [List.map_map]
  rfl
theorem drop_lines (ms : List Su.Mv) {i : Nat} (hi : i < ms.length) : (ms.map lineOf).drop i = lineOf (ms[i]'hi) :: (ms.map lineOf).drop (i + 1) := by
  rw [List.drop_eq_getElem_cons (by simpa using hi)]
  simp
theorem put_text (acc s : List UInt8) (k : Int) (B A8 : Nat → Int) (hk : k = acc.length) (hB : ∀ j, j < acc.length → B j = bytesF acc j) (h8 : A8 = rowS s) :
    ∀ j, j < (acc ++ s ++ [10]).length → splF B k.toNat (Int.toNat (A8 0 + 1)) (sbyF (catF A8 (rowLF [1, 10]))) j = bytesF (acc ++ s ++ [10]) j := by
  subst h8
  intro j hj
  have l0 := rowS0 s
  simp only [List.length_append, List.length_singleton] at hj
  have hsd : Sd (catF (rowS s) (rowLF [1, 10])) (s ++ [10]) := Sd.cat (Sd.row _) (Sd.lit _ _ (lit_row _ _ _ rfl rfl))
  simp only [splF]
  by_cases hjk : j < acc.length
  · rw [if_neg (by omega), hB j hjk]
    unfold bytesF
    rw [List.getD_eq_getElem?_getD, List.getD_eq_getElem?_getD, List.append_assoc, List.getElem?_append_left hjk]
  · rw [if_pos (by omega)]
    have hlt : j - k.toNat < ((catF (rowS s) (rowLF [1, 10])) 0).toNat := by
      rw [sd_len hsd]
      simp only [List.length_append, List.length_singleton]
      omega
    have hg := strD_get _ hlt
    rw [hsd.1] at hg
    unfold bytesF
    rw [List.getD_eq_getElem?_getD, List.append_assoc, List.getElem?_append_right (by omega), show j - acc.length = j - k.toNat by omega]
    cases hq : (s ++ [10])[j - k.toNat]? with
    | none => rw [hq] at hg; cases hg
    | some y =>
      rw [hq] at hg
      simpa using hg.symm
def PrI (ls : List (List UInt8)) (e : Ext) : Prop :=
  0 ≤ e.i.getD 0 0 ∧ e.i.getD 0 0 ≤ ls.length ∧ e.i.getD 1 0 = e.i.getD 0 0 ∧ ∃ acc : List UInt8, e.i.getD 2 0 = acc.length ∧ (∀ j, j < acc.length → (e.a.getD 0 fun _ => 0) j = bytesF acc j) ∧ acc.length ≤ 262144 ∧ e.i.getD 0 0 ≤ 1000 ∧ prG (e.i.getD 0 0).toNat acc (ls.drop (e.i.getD 0 0).toNat) = prG 0 [] ls
theorem printM_meets (hL : Laid0 w0 n0) (v : V1) {M : Sq.Mv} (h : MvOk n0 w0 M) (hs : Small M) (hn : M.n ≤ 9223372036854775807) (b0 : Nat) :
    Meets Tryd.prog 6 [.func (.func 16) #[] #[.pointer (some ⟨b0, 0, none⟩)]] [keptHP n0 w0, rowHP b0 true [v.v], sliM v M] fun x hs => x = prV (prG 0 [] (linesOf M)) ∧ hs = [keptHP n0 w0, rowHP b0 true [v.v], sliM v M] := by
  have := Meets.of_runE (C := cxM) (cnt := { i := 1, a := 7, p := 1, v := 1, b := 1 }) (ρ := { iv := [(M.n : Int)], av := [M.A 0, M.A 1, M.A 2, M.A 3, M.A 4, M.A 5, M.A 6], bv := [b0], vv := [v], va := [M.V], pv := [keptHP n0 w0] }) okT okFT okM Tryd.func6 (by constructor <;> rfl)
    (Post := fun x hs => x = prV (prG 0 [] (linesOf M)) ∧ hs.take 3 = [keptHP n0 w0, rowHP b0 true [v.v], sliM v M]) (args := [.fn 16 [.ptr 0 0]]) (hp := hpM) run_printM
    (vc_printM Tryd.prog (fun x hs => x = prV (prG 0 [] (linesOf M)) ∧ hs = [keptHP n0 w0, rowHP b0 true [v.v], sliM v M]) M.n (M.A 0) (M.A 1) (M.A 2) (M.A 3) (M.A 4) (M.A 5) (M.A 6) v M.V b0 (keptHP n0 w0) (fun _ => LC.none)) ?_ (Sc.pure_ok cxM rfl)
  · exact Meets.post this fun x hs hq => ⟨hs.take 3, Ent.sub (List.take_sublist 3 hs), hq⟩
  · have hll0 : (linesOf M).length = M.n := by simp [linesOf]
    unfold st_printM
    intro _ _ b3 _ _ _ _
    refine ⟨by omega, fun _ => ?_⟩
    refine ⟨PrI (linesOf M), fun e => ((M.n : Int) - e.i.getD 0 0).toNat, ⟨0, 0, 0, fun _ => 0, rfl, rfl, fun _ _ => rfl, rfl, by simp, by simp, rfl, [], rfl, fun j hj => by simp at hj, by simp, by simp, rfl⟩, ?_⟩
    rintro i m k B ⟨hi0, hi1, hm, acc, hk, hB, hacc, hi2, hG⟩
    simp only [List.getD_cons_zero, List.getD_cons_succ] at hi0 hi1 hm hk hB hi2 hG
    rw [hll0] at hi1
    obtain rfl := hm.symm
    refine ⟨fun hi => ⟨hi0, fun _ => fun _ _ => ⟨by omega, fun _ => ⟨by omega, fun _ => ⟨fun h1000 => ?_, fun h1000 => ?_⟩⟩⟩⟩, fun hi => ?_⟩
    · have hit : i.toNat < M.n := by omega
      rw [lines_drop M hit, prG, if_pos (by omega)] at hG
      rw [← hG]
      exact ⟨rfl, rfl⟩
    · have hit : i.toNat < M.n := by omega
      rw [lines_drop M hit, prG, if_neg (by omega)] at hG
      refine ⟨_, plineAt hL h hs hit, ?_⟩
      rintro _ _ ⟨rfl, rfl⟩
      refine ⟨rowS (lineAt M i.toNat), !(lineAt M i.toNat).isEmpty, by unfold lineV; rw [strV_row], rfl, fun hne => ?_, fun hne => ?_⟩
      · have he0 : lineAt M i.toNat = [] := by
          cases hq : lineAt M i.toNat with
          | nil => rfl
          | cons a b => rw [hq] at hne; exact absurd rfl hne
        rw [if_pos he0] at hG
        rw [← hG]
        exact ⟨rfl, rfl⟩
      · have he0 : lineAt M i.toNat ≠ [] := by
          intro hq
          rw [hq] at hne
          exact hne (by decide)
        rw [if_neg he0] at hG
        have hll := line_len (M.A 0 i.toNat).toNat (h.rg hs hit)
        change (lineAt M i.toNat).length ≤ 30000000 at hll
        have l0 := rowS0 (lineAt M i.toNat)
        refine ⟨by omega, fun _ => ⟨by omega, fun _ => ⟨by omega, fun _ => ⟨by omega, fun _ => ⟨by omega, fun _ => ⟨by omega, fun _ => ⟨fun h3 => ?_, fun h3 => ?_⟩⟩⟩⟩⟩⟩⟩
        · rw [if_pos (by omega)] at hG
          rw [← hG]
          exact ⟨rfl, rfl⟩
        · rw [if_neg (by omega)] at hG
          refine ⟨by omega, fun _ => ⟨by omega, fun _ => ⟨_, _, _, _, rfl, rfl, fun _ _ => rfl, rfl, ⟨?_, ?_, ?_, acc ++ lineAt M i.toNat ++ [10], ?_, ?_, ?_, ?_, ?_⟩, ?_⟩⟩⟩
          all_goals (try simp only [List.getD_cons_zero, List.getD_cons_succ])
          · omega
          · omega
          · simp only [List.length_append, List.length_singleton]; omega
          · exact put_text acc _ k B _ hk hB rfl
          · simp only [List.length_append, List.length_singleton]; omega
          · omega
          · rw [show (i + 1).toNat = i.toNat + 1 by omega]
            exact hG
          · omega
    · rw [List.drop_eq_nil_of_le (by omega), prG] at hG
      have hkn : k.toNat = acc.length := by omega
      rw [hkn]
      refine ⟨_, bstring b3 acc B hB, ?_⟩
      rintro _ _ ⟨rfl, rfl⟩
      refine ⟨rowS acc, strV_row _, rfl, ?_⟩
      rw [← hG]
      exact ⟨by unfold prV; rw [strV_row], rfl⟩
theorem plineK (hL : Laid0 w0 n0) (K : Su.BSet) (m : Su.Mv) (e : Int) (hr : MvR m) (hb : m.b.length ≤ 10000000) (hH : Has K e m.b) : Meets Tryd.prog 12 [Su.mvV m e] [keptHP n0 w0, Su.setHP K] fun x hs => x = lineV (lineOf m) ∧ hs = [keptHP n0 w0, Su.setHP K] := by
  have hk := hr.k
  have hv := pline_view (n0 := n0) (w0 := w0) hL m.k.toNat m.d1 m.d2 m.p1 m.p2 m.n m.c m.b ⟨bslV e, bslV_one e⟩ (by omega) ⟨hr.d1, hr.d2, hr.p1, hr.p2, hr.n, hr.c, hb⟩
  unfold movV at hv
  rw [show ((m.k.toNat : Nat) : Int) = m.k by omega] at hv
  refine Meets.lookIn (L := [keptHP n0 w0, vHP e m.b]) (Q := fun x => x = lineV (lineOf m)) ?_ hv _ ?_
  · intro h hm
    simp only [List.mem_cons, List.not_mem_nil, or_false] at hm
    rcases hm with rfl | rfl <;> rfl
  · intro w Fs ho h hm
    obtain ⟨S, hS⟩ := ho
    have s1 := hS.at_ 0 (keptHP n0 w0) rfl
    have s2 := hS.at_ 1 (Su.setHP K) rfl
    simp only [List.mem_cons, List.not_mem_nil, or_false] at hm
    rcases hm with rfl | rfl
    · exact ⟨_, s1.1, s1.2⟩
    · exact set_view s2.1 s2.2 hH
theorem printK_meets (hL : Laid0 w0 n0) (K : Su.BSet) (v : V1) (ms : List Su.Mv) (A0 A1 A2 A3 A4 A5 A6 A7 : Nat → Int) (hT : MvT K ms A0 A1 A2 A3 A4 A5 A6 A7) (hr : ∀ m ∈ ms, MvR m ∧ m.b.length ≤ 10000000) (hn : ms.length ≤ 1000000) (b0 : Nat) :
    Meets Tryd.prog 6 [.func (.func 16) #[] #[.pointer (some ⟨b0, 0, none⟩)]] [keptHP n0 w0, Su.setHP K, rowHP b0 true [v.v], sliHP true 36 8 v.v ms.length (tabM ms.length A0 A1 A2 A3 A4 A5 A6 A7)] fun x hs => x = prV (prG 0 [] (ms.map lineOf)) ∧ hs = [keptHP n0 w0, Su.setHP K, rowHP b0 true [v.v], sliHP true 36 8 v.v ms.length (tabM ms.length A0 A1 A2 A3 A4 A5 A6 A7)] := by
  have := Meets.of_runE (C := cxK) (cnt := { i := 1, a := 8, p := 2, v := 1, b := 1 }) (ρ := { iv := [(ms.length : Int)], av := [A0, A1, A2, A3, A4, A5, A6, A7], bv := [b0], vv := [v], pv := [keptHP n0 w0, Su.setHP K] }) okT okFT okM Tryd.func6 (by constructor <;> rfl)
    (Post := fun x hs => x = prV (prG 0 [] (ms.map lineOf)) ∧ hs.take 4 = [keptHP n0 w0, Su.setHP K, rowHP b0 true [v.v], sliHP true 36 8 v.v ms.length (tabM ms.length A0 A1 A2 A3 A4 A5 A6 A7)]) (args := [.fn 16 [.ptr 0 0]]) (hp := hpK) run_printK
    (vc_printK Tryd.prog (fun x hs => x = prV (prG 0 [] (ms.map lineOf)) ∧ hs = [keptHP n0 w0, Su.setHP K, rowHP b0 true [v.v], sliHP true 36 8 v.v ms.length (tabM ms.length A0 A1 A2 A3 A4 A5 A6 A7)]) ms.length A0 A1 A2 A3 A4 A5 A6 A7 v b0 (keptHP n0 w0) (Su.setHP K) (fun _ => LC.none)) ?_ (Sc.pure_ok cxK rfl)
  · exact Meets.post this fun x hs hq => ⟨hs.take 4, Ent.sub (List.take_sublist 4 hs), hq⟩
  · have hll0 : (ms.map lineOf).length = ms.length := by simp
    unfold st_printK
    intro _ _ b3 _ _ _ _
    refine ⟨by omega, fun _ => ?_⟩
    refine ⟨PrI (ms.map lineOf), fun e => ((ms.length : Int) - e.i.getD 0 0).toNat, ⟨0, 0, 0, fun _ => 0, rfl, rfl, fun _ _ => rfl, rfl, by simp, by simp, rfl, [], rfl, fun j hj => by simp at hj, by simp, by simp, rfl⟩, ?_⟩
    rintro i m k B ⟨hi0, hi1, hm, acc, hk, hB, hacc, hi2, hG⟩
    simp only [List.getD_cons_zero, List.getD_cons_succ] at hi0 hi1 hm hk hB hi2 hG
    rw [hll0] at hi1
    obtain rfl := hm.symm
    refine ⟨fun hi => ⟨hi0, fun _ => fun _ _ => ⟨by omega, fun _ => ⟨by omega, fun _ => ⟨fun h1000 => ?_, fun h1000 => ?_⟩⟩⟩⟩, fun hi => ?_⟩
    · have hit : i.toNat < ms.length := by omega
      rw [drop_lines ms hit, prG, if_pos (by omega)] at hG
      rw [← hG]
      exact ⟨rfl, rfl⟩
    · have hit : i.toNat < ms.length := by omega
      rw [drop_lines ms hit, prG, if_neg (by omega)] at hG
      obtain ⟨⟨a0, a1, a2, a3, a4, a5, a6⟩, a7⟩ := hT i.toNat _ (List.getElem?_eq_getElem hit)
      have hmr := hr _ (List.getElem_mem hit)
      rw [a0, a1, a2, a3, a4, a5, a6]
      generalize hm : ms[i.toNat]'hit = mv at hG a7 hmr
      refine ⟨_, plineK hL K mv (A7 i.toNat) hmr.1 hmr.2 a7, ?_⟩
      rintro _ _ ⟨rfl, rfl⟩
      refine ⟨rowS (lineOf mv), !(lineOf mv).isEmpty, by unfold lineV; rw [strV_row], rfl, fun hne => ?_, fun hne => ?_⟩
      · have he0 : lineOf mv = [] := by
          cases hq : lineOf mv with
          | nil => rfl
          | cons a b => rw [hq] at hne; exact absurd rfl hne
        rw [if_pos he0] at hG
        rw [← hG]
        exact ⟨rfl, rfl⟩
      · have he0 : lineOf mv ≠ [] := by
          intro hq
          rw [hq] at hne
          exact hne (by decide)
        rw [if_neg he0] at hG
        have hll : (lineOf mv).length ≤ 30000000 := line_len mv.k.toNat ⟨hmr.1.d1, hmr.1.d2, hmr.1.p1, hmr.1.p2, hmr.1.n, hmr.1.c, hmr.2⟩
        have l0 := rowS0 (lineOf mv)
        refine ⟨by omega, fun _ => ⟨by omega, fun _ => ⟨by omega, fun _ => ⟨by omega, fun _ => ⟨by omega, fun _ => ⟨by omega, fun _ => ⟨fun h3 => ?_, fun h3 => ?_⟩⟩⟩⟩⟩⟩⟩
        · rw [if_pos (by omega)] at hG
          rw [← hG]
          exact ⟨rfl, rfl⟩
        · rw [if_neg (by omega)] at hG
          refine ⟨by omega, fun _ => ⟨by omega, fun _ => ⟨_, _, _, _, rfl, rfl, fun _ _ => rfl, rfl, ⟨?_, ?_, ?_, acc ++ lineOf mv ++ [10], ?_, ?_, ?_, ?_, ?_⟩, ?_⟩⟩⟩
          all_goals (try simp only [List.getD_cons_zero, List.getD_cons_succ])
          · omega
          · omega
          · simp only [List.length_append, List.length_singleton]; omega
          · exact put_text acc _ k B _ hk hB rfl
          · simp only [List.length_append, List.length_singleton]; omega
          · omega
          · rw [show (i + 1).toNat = i.toNat + 1 by omega]
            exact hG
          · omega
    · rw [List.drop_eq_nil_of_le (by omega), prG] at hG
      have hkn : k.toNat = acc.length := by omega
      rw [hkn]
      refine ⟨_, bstring b3 acc B hB, ?_⟩
      rintro _ _ ⟨rfl, rfl⟩
      refine ⟨rowS acc, strV_row _, rfl, ?_⟩
      rw [← hG]
      exact ⟨by unfold prV; rw [strV_row], rfl⟩
end Go.RX.Bk

namespace Go.RX.Bk
open Go Go.RX Go.Proofs Go.RX.Ln Go.RX.Lp Go.RX.Lf Go.RX.Sp Go.RX.Sv Go.RX.Sx Go.RX.Sy Go.RX.Sq Go.RowKit
variable {w0 : World} {n0 : Nat}
theorem sameV_meets (a : Su.Mv) (e : Int) (K : Su.BSet) (h1 : Has K e a.b) (M : Sq.Mv) (j : Nat) (hb : BV n0 w0 (M.V j) (M.B j)) :
    Meets Tryd.prog 11 [Su.mvV a e, movAt M j] [Su.setHP K, keptHP n0 w0] fun x hs => x = .bool (sameM a (moveOf M j)) ∧ hs = [Su.setHP K, keptHP n0 w0] := by
  refine Meets.lookIn (L := [vHP e a.b, sliB (M.V j) (M.B j)]) (Q := fun x => x = .bool (sameM a (moveOf M j))) ?_ (same_gen a (moveOf M j) ⟨bslV e, bslV_one e⟩ (M.V j)) _ ?_
  · intro h hm
    simp only [List.mem_cons, List.not_mem_nil, or_false] at hm
    rcases hm with rfl | rfl <;> rfl
  · intro w Fs ho h hm
    obtain ⟨S, hS⟩ := ho
    have s1 := hS.at_ 0 (Su.setHP K) rfl
    have s2 := hS.at_ 1 (keptHP n0 w0) rfl
    simp only [List.mem_cons, List.not_mem_nil, or_false] at hm
    rcases hm with rfl | rfl
    · exact set_view s1.1 s1.2 h1
    · exact ⟨_, bv_p s2.1.2 hb, fun k hk => s2.2 k ((s2.1.1 k).2 (hb.below k hk.1 hk.2))⟩
theorem moves_len (M : Sq.Mv) : (movesOf M).length = M.n := by simp [movesOf]
theorem rowsV_meets (K : Su.BSet) (v u : V1) (xs : List Su.Mv) {M : Sq.Mv} (h : MvOk n0 w0 M) (A0 A1 A2 A3 A4 A5 A6 A7 : Nat → Int) (hx : MvT K xs A0 A1 A2 A3 A4 A5 A6 A7) (hl : xs.length ≤ 1000000) :
    Meets Tryd.prog 9 [v.v, u.v] [Su.setHP K, keptHP n0 w0, sliHP true 36 8 v.v xs.length (tabM xs.length A0 A1 A2 A3 A4 A5 A6 A7), sliM u M]
      fun x hs => x = .bool (sameL xs (movesOf M)) ∧ hs = [Su.setHP K, keptHP n0 w0, sliHP true 36 8 v.v xs.length (tabM xs.length A0 A1 A2 A3 A4 A5 A6 A7), sliM u M] := by
  have hr := Meets.of_runE (C := cxR) (cnt := { i := 2, a := 15, v := 2, p := 2 })
    (ρ := { iv := [(xs.length : Int), (M.n : Int)], av := [A0, A1, A2, A3, A4, A5, A6, A7, M.A 0, M.A 1, M.A 2, M.A 3, M.A 4, M.A 5, M.A 6], vv := [v, u], va := [M.V], pv := [Su.setHP K, keptHP n0 w0] }) okT okFT okM Tryd.func9 (by constructor <;> rfl)
    (Post := fun x hs => x = .bool (sameL xs (movesOf M)) ∧ hs.take 4 = [Su.setHP K, keptHP n0 w0, sliHP true 36 8 v.v xs.length (tabM xs.length A0 A1 A2 A3 A4 A5 A6 A7), sliM u M])
    (args := [.vv 0, .vv 1]) (hp := hpR) run_rowsV
    (vc_rowsV Tryd.prog (fun x hs => x = .bool (sameL xs (movesOf M)) ∧ hs = [Su.setHP K, keptHP n0 w0, sliHP true 36 8 v.v xs.length (tabM xs.length A0 A1 A2 A3 A4 A5 A6 A7), sliM u M]) xs.length M.n A0 A1 A2 A3 A4 A5 A6 A7 (M.A 0) (M.A 1) (M.A 2) (M.A 3) (M.A 4) (M.A 5) (M.A 6) v u M.V (Su.setHP K) (keptHP n0 w0) (fun _ => LC.none)) ?_
  · exact Meets.post hr fun x hs hq => ⟨hs.take 4, Ent.sub (List.take_sublist 4 hs), hq⟩
  have hml := moves_len M
  unfold st_rowsV
  refine ⟨by omega, fun _ => ⟨by omega, fun _ => ?_⟩⟩
  refine ⟨fun e => 0 ≤ e.i.getD 0 0 ∧ e.i.getD 0 0 ≤ xs.length ∧ e.bo.getD 0 false = (((xs.length : Int) == (movesOf M).length) && upS xs (movesOf M) (e.i.getD 0 0).toNat), fun e => ((xs.length : Int) - e.i.getD 0 0).toNat, ⟨0, _, rfl, rfl, by simp, by simp, by simp [upS, hml]⟩, ?_⟩
  rintro i q ⟨hi0, hi1, hq⟩
  simp only [List.getD_cons_zero] at hi0 hi1 hq
  refine ⟨by omega, fun _ => ⟨fun hc => ?_, fun hc => ?_⟩⟩
  · obtain ⟨hlt, hqt⟩ := hc
    rw [hqt] at hq
    have hq' := hq.symm
    rw [Bool.and_eq_true, beq_iff_eq] at hq'
    have hix : i.toNat < xs.length := by omega
    have hiy : i.toNat < (movesOf M).length := by omega
    obtain ⟨⟨x1, x2, x3, x4, x5, x6, x7⟩, xb⟩ := hx i.toNat _ (List.getElem?_eq_getElem hix)
    rw [x1, x2, x3, x4, x5, x6, x7]
    refine ⟨hi0, fun _ => ⟨hlt, fun _ => ⟨by omega, fun _ => ⟨_, sameV_meets _ _ K xb M i.toNat (h.b i.toNat (by omega)), ?_⟩⟩⟩⟩
    rintro x hs ⟨rfl, rfl⟩
    refine ⟨_, rfl, rfl, by omega, fun _ => ⟨by omega, fun _ => ⟨i + 1, _, rfl, rfl, ⟨?_, ?_, ?_⟩, ?_⟩⟩⟩
    all_goals (try simp only [List.getD_cons_zero])
    · omega
    · omega
    · have hy : (movesOf M)[i.toNat]'hiy = moveOf M i.toNat := by simp [movesOf]
      rw [show (i + 1).toNat = i.toNat + 1 by omega, upS_succ, hq'.2, hq'.1]
      simp [List.getD_eq_getElem?_getD, List.getElem?_eq_getElem hix, List.getElem?_eq_getElem hiy, hy]
    · omega
  · refine ⟨?_, rfl⟩
    congr 1
    unfold sameL
    by_cases hi : i < xs.length
    · have hqf : q = false := by cases q; rfl; exact absurd ⟨hi, rfl⟩ hc
      rw [hqf] at hq ⊢
      rcases Bool.and_eq_false_iff.1 hq.symm with h | h
      · rw [h]; rfl
      · rw [upS_false xs (movesOf M) _ xs.length (by omega) h, Bool.and_false]
    · rw [hq, show i.toNat = xs.length by omega]
end Go.RX.Bk

namespace Go.RX.Tr
open Go.RX Go.Proofs
noncomputable def cx : Ctx := { T := TT, FT := FT, loops := loops, callees := callees, pure := pure }
set_option maxRecDepth 100000
end Go.RX.Tr
