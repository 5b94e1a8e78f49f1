/- Arguments that are structs with bytes behind their numbers, and slices of these. · What the executor is told of the calls and loops of the document's reading of moves. · What the executor is told of the document's reading of a text. · What the executor is told of the calls of the program's reading of moves. · What the executor is told of the program's reading of a text. · What the executor is told of the law ScriptReads: its calls, the texts' range. · What the executor is told of the comparison of two rows of moves. · What the executor is told of printing and comparing for ScriptBack. · What the executor is told of the law ScriptBack: its calls, the texts' range. (Written for seat .D.) -/
import Derived.Test.YtgaabcinjbjbgaaDoorM35
import Derived.Test.YtgaabcinjbjbgaaDoorM26
import Derived.Test.YtgaabcinjbjbgaaDoorM32

namespace Go.RX.Sq
open Go Go.RX Go.Proofs Go.RX.Ln Go.RX.Sp Go.RowKit
section
variable {H : Type} {enc : TypeId × Value → H} {P : Program} {w : World} {base : Nat} {spare : Nat → Bool} {held : Bool}
theorem open_withB {t e n m i fuel : Nat} {fs : Array Field} {fB : Field} {ks : List (Option IntKind)} {cs : List Value} {x : DataW H × List MemPlace}
    (ht : P.underlying t = some (.struct fs)) (hi : fs[i]? = some fB) (hks : flatF P (flatA P n) (fs.toList.take i) 0 = some ks) (hoff : fB.offset = ks.length)
    (hB : P.underlying fB.type = some (.slice e)) (he : flatA P m e = some [some .u8]) (hce : P.cellsOf e = 1) (hcB : P.cellsOf fB.type = 1) (h : DataW.trod enc P w base spare held fuel t cs = some x) :
    ∃ (F : Nat → Int) (a : Option Addr) (len cap : Nat) (G : Nat → Nat → Int), (∀ (j : Nat) k, ks[j]? = some k → cs[j]? = some (cellV k (F j)) ∧ cellWf k (F j)) ∧ cs[ks.length]? = some (.slice a len cap) ∧ IsTab [some .u8] w a len cap G := by
  obtain ⟨ys, n', _, _, _, hyl, hf⟩ := DataW.trod_struct ht h
  have hall : ∀ f ∈ fs.toList, ∃ n x, DataW.trod enc P w base spare held n f.type ((cs.drop f.offset).take (P.cellsOf f.type)) = some x := by
    intro f hf'
    obtain ⟨j, hj⟩ := List.getElem?_of_mem hf'
    have hj' : fs[j]? = some f := by rw [← hj, Array.getElem?_toList]
    have hjl : j < fs.size := (Array.getElem?_eq_some_iff.1 hj').1
    exact ⟨n', ys[j]'(by omega), (hf j f hj').trans (List.getElem?_eq_getElem _)⟩
  have h1 := flatF_trod (enc := enc) (w := w) (base := base) (spare := spare) (held := held) (cs := cs) (fun t ks cs' h1 h2 => flatA_trod (n := n) h1 h2) hks (fun f hf' => hall f (List.mem_of_mem_take hf'))
  have key : ∀ j : Nat, ∃ z : Int, ∀ k, ks[j]? = some k → cs[j]? = some (cellV k z) ∧ cellWf k z := by
    intro j
    cases hk : ks[j]? with
    | none => exact ⟨0, fun k h => by cases h⟩
    | some k =>
      obtain ⟨v, hv, z, rfl, hz⟩ := h1 j k hk
      refine ⟨z, fun k' h => ?_⟩
      cases h
      exact ⟨by simpa using hv, hz⟩
  obtain ⟨mB, xB, hxB⟩ := hall fB (by rw [← Array.getElem?_toList] at hi; exact List.mem_of_getElem? hi)
  obtain ⟨a, len, cap, G, hcs, hT⟩ := open_tabA (ks := [some .u8]) hB he hce hxB
  refine ⟨fun j => (key j).choose, a, len, cap, G, fun j k hk => (key j).choose_spec k hk, ?_, hT⟩
  rw [hoff, hcB] at hcs
  have := congrArg (fun l : List Value => l[0]?) hcs
  simp only [List.getElem?_take, List.getElem?_drop, Nat.add_zero] at this
  simpa using this
end
def tabBytes (len : Nat) (G : Nat → Nat → Int) : List UInt8 := (List.range len).map fun i => UInt8.ofNat (G i 0).toNat
theorem tab_wf {w : World} {a : Option Addr} {len cap : Nat} {G : Nat → Nat → Int} (h : IsTab [some .u8] w a len cap G) (i : Nat) (hi : i < len) : 0 ≤ G i 0 ∧ G i 0 ≤ 255 := by
  rcases h with ⟨_, h, _⟩ | ⟨x, _, _, _, hc⟩
  · omega
  · have := (hc i hi 0 (some .u8) rfl).2
    simp [cellWf, Lit.wf, IntKind.min, IntKind.max, IntKind.signed, IntKind.bits] at this
    omega
theorem bv_of_tab {w : World} {a : Option Addr} {len cap : Nat} {G : Nat → Nat → Int} (h : IsTab [some .u8] w a len cap G) : BV w.heap.size w ⟨.slice a len cap, rfl⟩ (tabBytes len G) := by
  have hl : (tabBytes len G).length = len := by simp [tabBytes]
  have hw := fun i hi => tab_wf h i hi
  refine ⟨⟨a, len, cap, rfl, by rw [hl], ?_, ?_, ?_⟩, ?_⟩
  · rcases h with ⟨_, rfl, rfl⟩ | ⟨x, _, h, _⟩
    · exact Nat.le_refl _
    · exact h
  · rintro rfl
    rcases h with ⟨_, h, _⟩ | ⟨x, h, _⟩
    · rw [hl]; exact h
    · cases h
  · rintro ad rfl
    rcases h with ⟨h, _⟩ | ⟨x, h, hlc, _, hc⟩
    · cases h
    · cases h
      constructor
      · intro hpos
        rw [hl] at hpos
        have h0 := (hc 0 hpos 0 (some .u8) rfl).1
        rw [Nat.zero_mul, Nat.zero_add, addr_add_zero] at h0
        exact World.cell?_spot h0
      · intro j u hu
        rw [cellsB_seg, hl, segCells_getElem?] at hu
        split at hu
        · rename_i hj
          cases hu
          have := (hc j hj 0 (some .u8) rfl).1
          simp only [List.length_cons, List.length_nil, Nat.zero_add, Nat.mul_one, Nat.add_zero] at this
          rw [this]
          have hb : bytesF (tabBytes len G) j = G j 0 := by
            unfold bytesF tabBytes
            have := hw j hj
            rw [List.getD_eq_getElem?_getD, List.getElem?_map, List.getElem?_range hj]
            simp only [Option.map_some, Option.getD_some, UInt8.toNat_ofNat']
            omega
          rw [hb]
          rfl
        · cases hu
  · intro k hk hpos
    rw [hl] at hpos
    rcases h with ⟨rfl, rfl, _⟩ | ⟨x, rfl, hlc, _, hc⟩
    · omega
    · simp only [Value.ownBlock, Option.some.injEq] at hk
      subst hk
      have := World.block_lt_of_cell? w _ (hc 0 hpos 0 (some .u8) rfl).1
      rw [Nat.zero_mul, Nat.zero_add, addr_add_zero] at this
      exact this
theorem flat8 (f : Nat → List Value) (hf : ∀ i, (f i).length = 8) : ∀ n : Nat, ((List.range n).flatMap f).length = n * 8 ∧ ∀ (m : Nat) u, ((List.range n).flatMap f)[m]? = some u → ∃ i j, i < n ∧ m = i * 8 + j ∧ (f i)[j]? = some u
  | 0 => ⟨rfl, fun m u h => by simp at h⟩
  | n + 1 => by
    obtain ⟨h1, h2⟩ := flat8 f hf n
    have e : (List.range (n + 1)).flatMap f = (List.range n).flatMap f ++ f n := by simp [List.range_succ, List.flatMap_append]
    rw [e]
    refine ⟨by rw [List.length_append, h1, hf]; omega, fun m u h => ?_⟩
    by_cases hm : m < ((List.range n).flatMap f).length
    · rw [List.getElem?_append_left hm] at h
      obtain ⟨i, j, q1, q2, q3⟩ := h2 m u h
      exact ⟨i, j, by omega, q2, q3⟩
    · rw [List.getElem?_append_right (by omega)] at h
      refine ⟨n, _, by omega, ?_, h⟩
      rw [h1] at hm ⊢
      omega
theorem mv_cells (M : Mv) : M.cells = (List.range M.n).flatMap fun i => [.int .u8 (M.A 0 i), .int .u8 (M.A 1 i), .int .u8 (M.A 2 i), .int .u8 (M.A 3 i), .int .u8 (M.A 4 i), .int .i64 (M.A 5 i), .int .u64 (M.A 6 i), (M.V i).v] := by
  unfold Mv.cells tabL
  have h1 : List.range 1 = [0] := rfl
  simp [colI, colV, segCells, h1]
structure IsMv (w : World) (a : Option Addr) (cap : Nat) (M : Mv) : Prop where
  nil : a = none → M.n = 0
  le : M.n ≤ cap
  cap : cap ≤ maxLen
  at_ : ∀ x, a = some x → ∀ i, i < M.n → ∀ (j : Nat) u, [(.int .u8 (M.A 0 i) : Value), .int .u8 (M.A 1 i), .int .u8 (M.A 2 i), .int .u8 (M.A 3 i), .int .u8 (M.A 4 i), .int .i64 (M.A 5 i), .int .u64 (M.A 6 i), (M.V i).v][j]? = some u → w.cell? (x.add (i * 8 + j)) = some u
theorem mv_p {w : World} {a : Option Addr} {cap : Nat} {M : Mv} (h : IsMv w a cap M) : (sliM ⟨.slice a M.n cap, rfl⟩ M).p w (fun k => (Value.slice a M.n cap).ownBlock = some k ∧ 0 < M.n) ∧ ∀ k, ((Value.slice a M.n cap).ownBlock = some k ∧ 0 < M.n) → k < w.heap.size := by
  have f8 := flat8 (fun i => [(.int .u8 (M.A 0 i) : Value), .int .u8 (M.A 1 i), .int .u8 (M.A 2 i), .int .u8 (M.A 3 i), .int .u8 (M.A 4 i), .int .i64 (M.A 5 i), .int .u64 (M.A 6 i), (M.V i).v]) (fun _ => rfl) M.n
  rw [← mv_cells] at f8
  refine ⟨⟨?_, fun k => by simp⟩, ?_⟩
  · simp only [Bool.false_eq_true, if_false]
    refine ⟨f8.1, a, M.n, cap, rfl, rfl, h.le, h.nil, fun ad had => ⟨fun hpos => ?_, fun m u hu => ?_⟩⟩
    · have h0 := h.at_ ad had 0 hpos 0 _ rfl
      rw [Nat.zero_mul, Nat.zero_add, addr_add_zero] at h0
      exact World.cell?_spot h0
    · obtain ⟨i, j, q1, rfl, q3⟩ := f8.2 m u hu
      exact h.at_ ad had i q1 j u q3
  · rintro k ⟨hk, hpos⟩
    cases a with
    | none => simp [Value.ownBlock] at hk
    | some x =>
      simp only [Value.ownBlock, Option.some.injEq] at hk
      subst hk
      have := World.block_lt_of_cell? w _ (h.at_ x rfl 0 hpos 0 _ rfl)
      rw [Nat.zero_mul, Nat.zero_add, addr_add_zero] at this
      exact this
def mvKs : List (Option IntKind) := [some .u8, some .u8, some .u8, some .u8, some .u8, some .i64, some .u64]
theorem mv_struct : Tryd.prog.underlying 36 = some (.struct #[{ name := "Kind", type := 5, offset := 0, embedded := false, tag := "", pkgPath := "", byteOffset := 0 }, { name := "Dev", type := 32, offset := 1, embedded := false, tag := "", pkgPath := "", byteOffset := 1 }, { name := "Peer", type := 32, offset := 3, embedded := false, tag := "", pkgPath := "", byteOffset := 3 }, { name := "N", type := 3, offset := 5, embedded := false, tag := "", pkgPath := "", byteOffset := 8 }, { name := "Code", type := 33, offset := 6, embedded := false, tag := "", pkgPath := "", byteOffset := 16 }, { name := "B", type := 34, offset := 7, embedded := false, tag := "", pkgPath := "", byteOffset := 24 }]) := by kernel_rfl
theorem wf_i (k : IntKind) (z lo hi : Int) (h : cellWf (some k) z) (hlo : k.min = lo) (hhi : k.max = hi) : lo ≤ z ∧ z ≤ hi := by
  simp [cellWf, Lit.wf] at h
  omega
theorem open_mv {H : Type} {enc : TypeId × Value → H} {w : World} {base : Nat} {spare : Nat → Bool} {held : Bool} {fuel : Nat} {cs : List Value} {x : DataW H × List MemPlace} (h : DataW.trod enc Tryd.prog w base spare held fuel 22 cs = some x) :
    ∃ a cap M, cs = [.slice a M.n cap] ∧ IsMv w a cap M ∧ MvOk w.heap.size w M ∧ ∀ i, i < M.n → (M.B i).length ≤ maxLen := by
  rcases DataW.trod_slice Tryd.underlying22 h with ⟨rfl, _⟩ | ⟨a, len, cap, elems, rest, m, _, rfl, _, hb, hl, hm, hlen, hel, _, _⟩
  · exact ⟨none, 0, ⟨0, fun _ _ => 0, fun _ => V1.nil, fun _ => []⟩, rfl, ⟨fun _ => rfl, Nat.le_refl _, Nat.zero_le _, fun _ h => nomatch h⟩, ⟨fun _ h => absurd h (Nat.not_lt_zero _), fun _ _ h => absurd h (Nat.not_lt_zero _), fun _ h => absurd h (Nat.not_lt_zero _), fun _ h => absurd h (Nat.not_lt_zero _)⟩, fun _ h => absurd h (Nat.not_lt_zero _)⟩
  have key : ∀ i, ∃ (F : Nat → Int) (b : Option Addr) (bl bc : Nat) (G : Nat → Nat → Int), i < len → (∀ (j : Nat) k, mvKs[j]? = some k → w.cell? (a.add (i * 8 + j)) = some (cellV k (F j)) ∧ cellWf k (F j)) ∧ w.cell? (a.add (i * 8 + 7)) = some (.slice b bl bc) ∧ IsTab [some .u8] w b bl bc G := by
    intro i
    by_cases hi : i < len
    · have h1 := hel i hi
      have hg : elems[i]? = some (elems[i]'(by omega)) := List.getElem?_eq_getElem (by omega)
      rw [hg, Option.bind_eq_some_iff] at h1
      obtain ⟨cs', hcs, htr⟩ := h1
      obtain ⟨F, b, bl, bc, G, q1, q2, q3⟩ := open_withB (i := 5) (n := 4) (m := 4) (ks := mvKs) mv_struct rfl (by kernel_rfl) rfl Tryd.underlying34 (by kernel_rfl) (by kernel_rfl) (by kernel_rfl) htr
      obtain ⟨_, hcl, hat⟩ := World.cells?_some hcs
      have hc8 : Tryd.prog.cellsOf 36 = 8 := by kernel_rfl
      rw [hc8] at hat
      refine ⟨F, b, bl, bc, G, fun _ => ⟨fun j k hk => ?_, ?_, q3⟩⟩
      · have hj : j < 7 := (List.getElem?_eq_some_iff.1 hk).1
        have := hat j (by omega)
        rw [(q1 j k hk).1, addr_add_add] at this
        exact ⟨this, (q1 j k hk).2⟩
      · have := hat 7 (by omega)
        rw [show cs'[7]? = some (.slice b bl bc) from q2, addr_add_add] at this
        exact this
    · exact ⟨fun _ => 0, none, 0, 0, fun _ _ => 0, fun h => absurd h hi⟩
  obtain ⟨F, hF⟩ := Classical.axiomOfChoice key
  obtain ⟨b, hF⟩ := Classical.axiomOfChoice hF
  obtain ⟨bl, hF⟩ := Classical.axiomOfChoice hF
  obtain ⟨bc, hF⟩ := Classical.axiomOfChoice hF
  obtain ⟨G, hF⟩ := Classical.axiomOfChoice hF
  refine ⟨some a, cap, ⟨len, fun j i => F i j, fun i => ⟨.slice (b i) (bl i) (bc i), rfl⟩, fun i => tabBytes (bl i) (G i)⟩, rfl, ⟨fun h => (nomatch h), hl, hm, ?_⟩, ⟨fun i hi => bv_of_tab (hF i hi).2.2, ?_, ?_, ?_⟩, ?_⟩
  · rintro _ ⟨⟩ i hi j u hu
    obtain ⟨q1, q2, _⟩ := hF i hi
    match j, hu with
    | 0, hu => cases hu; exact (q1 0 _ rfl).1
    | 1, hu => cases hu; exact (q1 1 _ rfl).1
    | 2, hu => cases hu; exact (q1 2 _ rfl).1
    | 3, hu => cases hu; exact (q1 3 _ rfl).1
    | 4, hu => cases hu; exact (q1 4 _ rfl).1
    | 5, hu => cases hu; exact (q1 5 _ rfl).1
    | 6, hu => cases hu; exact (q1 6 _ rfl).1
    | 7, hu => cases hu; exact q2
    | j + 8, hu => simp at hu
  · intro i j hi hj
    obtain ⟨q1, _, _⟩ := hF i hi
    have : mvKs[j]? = some (some .u8) := by
      have : j = 0 ∨ j = 1 ∨ j = 2 ∨ j = 3 ∨ j = 4 := by omega
      rcases this with rfl | rfl | rfl | rfl | rfl <;> rfl
    exact wf_i .u8 _ 0 255 (q1 j _ this).2 (by decide) (by decide)
  · intro i hi
    exact wf_i .i64 _ _ _ ((hF i hi).1 5 _ rfl).2 (by decide) (by decide)
  · intro i hi
    exact wf_i .u64 _ _ _ ((hF i hi).1 6 _ rfl).2 (by decide) (by decide)
  · intro i hi
    have : (tabBytes (bl i) (G i)).length = bl i := by simp [tabBytes]
    show (tabBytes (bl i) (G i)).length ≤ maxLen
    rw [this]
    rcases (hF i hi).2.2 with ⟨_, h, _⟩ | ⟨x, _, h1, h2, _⟩
    · rw [h]; exact Nat.zero_le _
    · omega
end Go.RX.Sq

namespace Go.RX.Su
open Go.RX Go.RX.Lp Go.RX.Sp
def numCall : CallAnn := { use := fun _ _ => [], inc := { i := 1, bo := 1 }, val := fun c => .tup [.int .u64 (.var c.i), .bool (.var c.bo)], new := fun _ h => h }
def bytesCall : CallAnn := { use := fun _ hp => absIdx hp, inc := { i := 1, bo := 1, p := 1 }, val := fun c => .tup [.cvE (.var c.i), .bool (.var c.bo)], new := fun c _ => [.abs c.p] }
def growB (c : Cnt) : Ck → Ck
  | .sli true _ t s _ _ => .sli true c.v t s (.var (c.i + 2)) [⟨.int .u8, 1, .avar c.a⟩]
  | h => h
def loops (f id : Nat) : Option LoopAnn :=
  match f, id with
  | _, _ => none
end Go.RX.Su

namespace Go.RX.Sv
open Go.RX Go.RX.Lp Go.RX.Sp
def mvE (i : Nat) : SV := .agg [.int .u8 (.var i), .int .u8 (.var (i + 1)), .int .u8 (.var (i + 2)), .int .u8 (.var (i + 3)), .int .u8 (.var (i + 4)), .int .i64 (.var (i + 5)), .int .u64 (.var (i + 6)), .cvE (.var (i + 7))]
def callees (f : Nat) : Option CallAnn :=
  match f with
  | _ => none
def mCols (a : Nat) : List Col := [⟨.int .u8, 1, .avar a⟩, ⟨.int .u8, 1, .avar (a + 1)⟩, ⟨.int .u8, 1, .avar (a + 2)⟩, ⟨.int .u8, 1, .avar (a + 3)⟩, ⟨.int .u8, 1, .avar (a + 4)⟩, ⟨.int .i64, 1, .avar (a + 5)⟩, ⟨.int .u64, 1, .avar (a + 6)⟩, ⟨.cv, 1, .avar (a + 7)⟩]
def loops (f id : Nat) : Option LoopAnn :=
  match f, id with
  | _, _ => none
end Go.RX.Sv

namespace Go.RX.St
open Go.RX Go.RX.Lp Go.RX.Sp
def cutCall : CallAnn := { use := fun _ hp => absIdx hp, inc := { a := 2, bo := 1 }, val := fun c => .tup [.strE (.avar c.a), .strE (.avar (c.a + 1)), .bool (.var c.bo)], new := fun _ h => h }
def fitCall (k : IntKind) : CallAnn := { use := fun _ hp => absIdx hp, inc := { i := 1, bo := 1 }, val := fun c => .tup [.int k (.var c.i), .bool (.var c.bo)], new := fun _ h => h }
def atoiCall : CallAnn := { use := fun _ hp => absIdx hp, inc := { i := 1, bo := 1, v := 1 }, val := fun c => .tup [.int .i64 (.var c.i), .ifv (.var c.bo) c.v], new := fun _ h => h }
def calleesF (f : Nat) : Option CallAnn :=
  match f with
  | 69 => some Lf.parseCall
  | 35 => some strCall
  | _ => none
def calleesD (f : Nat) : Option CallAnn :=
  match f with
  | 28 => some cutCall
  | 66 => some (fitCall .u8)
  | _ => none
def hasCall : CallAnn := { use := fun _ _ => [], inc := { bo := 1 }, val := fun c => .bool (.var c.bo), new := fun _ h => h }
def idxCall : CallAnn := { use := fun _ _ => [], inc := { i := 1 }, val := fun c => .int .i64 (.var c.i), new := fun _ h => h }
def calleesB (f : Nat) : Option CallAnn :=
  match f with
  | 70 => some hasCall
  | 71 => some idxCall
  | _ => none
def growB (c : Cnt) : Ck → Ck
  | .sli true _ t s _ _ => .sli true c.v t s (.var (c.i + 1)) [⟨.int .u8, 1, .avar c.a⟩]
  | h => h
def loopsB (f id : Nat) : Option LoopAnn :=
  match f, id with
  | 53, 0 => some { pre := [.slot 4 5], inc := { i := 2, a := 1, v := 1 }, slots := fun c => [(5, .int .i64 (.var c.i)), (4, .vv c.v)], hp := fun c h => h.map (growB c) }
  | _, _ => none
def lastAbs (hp : List Ck) : List Nat :=
  match hp.reverse.findIdx? (fun c => match c with | .abs _ => true | _ => false) with
  | some i => [hp.length - 1 - i]
  | none => []
def firstAbs (hp : List Ck) : List Nat := absIdx hp
def onLaid (c : CallAnn) : CallAnn := { c with use := fun _ hp => firstAbs hp }
def bytesCall : CallAnn := { use := fun _ hp => lastAbs hp, inc := { i := 1, bo := 1, p := 1 }, val := fun c => .tup [.cvE (.var c.i), .bool (.var c.bo)], new := fun c _ => [.abs c.p] }
def pdevCall : CallAnn := { use := fun _ hp => firstAbs hp, inc := { i := 2, bo := 1 }, val := fun c => .tup [.agg [.int .u8 (.var c.i), .int .u8 (.var (c.i + 1))], .bool (.var c.bo)], new := fun _ h => h }
def wordsL : List (List UInt8 × List UInt8) := [([100, 105, 97, 108], [100, 110]), ([97, 110, 115, 119, 101, 114], [100]), ([100, 101, 99, 108, 105, 110, 101], [100]), ([104, 97, 110, 103], [100]), ([116, 105, 99, 107], [110]),
   ([100, 101, 108, 105, 118, 101, 114], [110]), ([100, 114, 111, 112], [110]), ([100, 111, 117, 98, 108, 101], [110]), ([116, 97, 109, 112, 101, 114], [110, 99]), ([105, 110, 106, 101, 99, 116], [100, 98]),
   ([99, 114, 101, 97, 116, 101], [100]), ([97, 100, 100], [100, 112]), ([107, 105, 99, 107], [100, 112]), ([108, 101, 97, 118, 101], [100]), ([102, 114, 97, 109, 101], [100, 98])]
def formV : List SV → SV
  | [.int .u8 (.lit k)] => match wordsL[(k - 1).toNat]? with
    | some (w, f) => .tup [.str w, .str f, .bool (.lit true)]
    | none => .tup [.str [], .str [], .bool (.lit false)]
  | _ => .undef
def formCall : CallAnn := { use := fun _ _ => [], val := fun _ => .undef, new := fun _ h => h, valOf := some fun az _ => formV az }
def calleesM (f : Nat) : Option CallAnn :=
  match f with
  | 50 => some pdevCall
  | 51 => some (onLaid atoiCall)
  | 22 => some (onLaid strCall)
  | 52 => some (onLaid (fitCall .u64))
  | 53 => some bytesCall
  | 20 => some formCall
  | _ => none
end Go.RX.St

namespace Go.RX.Sw
open Go.RX Go.RX.Lp Go.RX.Sp Go.RX.Sv Go.RX.St
def fieldsCall : CallAnn := { use := fun _ hp => firstAbs hp, inc := { i := 1, a := 1, v := 1 }, val := fun c => .vv c.v, new := fun c h => h ++ [.sli true c.v 9 1 (.var c.i) [⟨.str, 1, .avar c.a⟩]] }
def moveCall : CallAnn := { use := fun az hp => firstAbs hp ++ lastAbs hp ++ sliIdx az hp, inc := { i := 9, p := 1 }, val := fun c => .tup [mvE c.i, .int .i64 (.var (c.i + 8))], new := fun c h => match h with | [a, _, w] => [a, .abs c.p, w] | h => h }
def indexCall : CallAnn := { use := fun _ _ => [], inc := { i := 1 }, val := fun c => .int .i64 (.var c.i), new := fun _ h => h }
def callees (f : Nat) : Option CallAnn :=
  match f with
  | 28 => some (onLaid cutCall)
  | 29 => some fieldsCall
  | 31 => some moveCall
  | 48 => some indexCall
  | _ => none
def readNew8 (c : Cnt) : Ck → Ck
  | .abs 0 => .abs 0
  | .abs _ => .abs c.p
  | .row 0 w _ => .row 0 w [.vv c.v]
  | .row 4 w _ => .row 4 w [.int .i64 (.var c.i)]
  | .row 5 w _ => .row 5 w [.int .i64 (.var (c.i + 1))]
  | .row 6 w _ => .row 6 w [.strE (.avar (c.a + 8))]
  | .sli true _ 36 z _ _ => .sli true c.v 36 z (.var (c.i + 2)) (mCols c.a)
  | h => h
def loops (f id : Nat) : Option LoopAnn :=
  match f, id with
  | 46, 2 => some { pre := [.cell 2 0 36], inc := { i := 3, a := 9, v := 1, p := 1 }, slots := fun _ => [], hp := fun c h => h.map (readNew8 c) }
  | _, _ => none
end Go.RX.Sw

namespace Go.RX.Tr
open Go.RX Go.RX.Lp Go.RX.Sp Go.RX.Sv Go.RX.St
def readCall : CallAnn := { use := fun _ _ => [0, 1], inc := { i := 3, a := 8, v := 1, p := 1 }, val := fun c => .tup [.vv c.v, .int .i64 (.var c.i), .int .i64 (.var (c.i + 1))], new := fun c h => match h with | [k, _] => [k, .abs c.p, .sli true c.v 36 8 (.var (c.i + 2)) (mCols c.a)] | h => h }
def rowsCall : CallAnn := { use := fun _ _ => [1, 2, 6, 7], inc := { bo := 1 }, val := fun c => .bool (.var c.bo), new := fun _ h => h }
def sameCall : CallAnn := { use := fun _ _ => [3, 2], inc := { bo := 1 }, val := fun c => .bool (.var c.bo), new := fun _ h => h }
def moveCall3 : CallAnn := { use := fun az hp => [0, 3] ++ sliIdx az hp, inc := { i := 9, p := 1 }, val := fun c => .tup [mvE c.i, .int .i64 (.var (c.i + 8))], new := fun c h => match h with | [a, _, w] => [a, .abs c.p, w] | h => h }
def callees (f : Nat) : Option CallAnn :=
  match f with
  | 8 => some readCall
  | 9 => some rowsCall
  | 11 => some sameCall
  | 28 => some (onLaid cutCall)
  | 29 => some Sw.fieldsCall
  | 31 => some moveCall3
  | 48 => some Sw.indexCall
  | _ => none
def lawNew (c : Cnt) : Nat → Ck → Ck
  | 3, .abs _ => .abs c.p
  | _, .row 4 w _ => .row 4 w [.int .i64 (.var c.i)]
  | _, .row 11 w _ => .row 11 w [.int .i64 (.var (c.i + 1))]
  | _, .row 12 w _ => .row 12 w [.int .i64 (.var (c.i + 2))]
  | _, .row 13 w _ => .row 13 w [.strE (.avar c.a)]
  | _, h => h
def loops (f id : Nat) : Option LoopAnn :=
  match f, id with
  | 46, 2 => some { inc := { i := 3, a := 1, p := 1 }, slots := fun _ => [], hp := fun c h => h.mapIdx (lawNew c) }
  | _, _ => none
def pWorks (xs : List SV) (_ : List Ck) : Option PRes :=
  match xs with
  | [] => some { val := .bool (.lit true) }
  | _ => none
def pure (f : Nat) : Option (List SV → List Ck → Option PRes) :=
  match f with
  | 4 => some pWorks
  | _ => none
end Go.RX.Tr

namespace Go.RX.Sy
open Go.RX Go.RX.Lp Go.RX.Sp Go.RX.Sv Go.RX.St
def sameCall : CallAnn := { use := fun _ hp => firstAbs hp ++ lastAbs hp, inc := { bo := 1 }, val := fun c => .bool (.var c.bo), new := fun _ h => h }
def callees (f : Nat) : Option CallAnn :=
  match f with
  | 11 => some sameCall
  | _ => none
def loops (f id : Nat) : Option LoopAnn :=
  match f, id with
  | 9, 0 => some { inc := { i := 1, bo := 1 }, slots := fun c => [(6, .int .i64 (.var c.i)), (5, .bool (.var c.bo))] }
  | _, _ => none
def hpR : List Ck := [.abs 0, .abs 1, .sli true 0 36 8 (.var 0) (mCols 0), .sli true 1 36 8 (.var 1) (mCols 8)]
end Go.RX.Sy

namespace Go.RX.Bk
open Go.RX Go.RX.Lp Go.RX.Sp Go.RX.Sv Go.RX.St
def hpM : List Ck := [.abs 0, .row 0 true [.vv 0], .sli false 0 36 8 (.var 0) Sq.mCols]
def callsM (f d : Nat) : Option CallAnn :=
  match f, d with
  | 6, 19 => some Sq.lineCall
  | 6, 29 => some strBld
  | _, _ => none
def loopsM (f id : Nat) : Option LoopAnn :=
  match f, id with
  | 16, 0 => Sq.loops 16 0
  | _, _ => none
def hpK : List Ck := [.abs 0, .abs 1, .row 0 true [.vv 0], .sli true 0 36 8 (.var 0) (mCols 0)]
def lineK : CallAnn := { use := fun _ _ => [0, 1], inc := { a := 1, bo := 1 }, val := fun c => .tup [.strE (.avar c.a), .bool (.var c.bo)], new := fun _ h => h }
def callsK (f d : Nat) : Option CallAnn :=
  match f, d with
  | 6, 19 => some lineK
  | 6, 29 => some strBld
  | _, _ => none
def colsV : List Col := [⟨.int .u8, 1, .avar 8⟩, ⟨.int .u8, 1, .avar 9⟩, ⟨.int .u8, 1, .avar 10⟩, ⟨.int .u8, 1, .avar 11⟩, ⟨.int .u8, 1, .avar 12⟩, ⟨.int .i64, 1, .avar 13⟩, ⟨.int .u64, 1, .avar 14⟩, ⟨.val 0, 1, .lit 0⟩]
def hpR : List Ck := [.abs 0, .abs 1, .sli true 0 36 8 (.var 0) (mCols 0), .sli false 1 36 8 (.var 1) colsV]
def calleesR (f : Nat) : Option CallAnn :=
  match f with
  | 11 => some Sy.sameCall
  | _ => none
end Go.RX.Bk

namespace Go.RX.Bj
open Go.RX Go.RX.Lp Go.RX.Sp Go.RX.Sv Go.RX.St
def rowOf (az : List SV) (hp : List Ck) : List Nat :=
  match az with
  | .fn _ [.ptr b _] :: _ => match hp.findIdx? (fun c => match c with | .row b' .. => b == b' | _ => false) with
    | some i => match hp[i]? with
      | some (.row _ _ [.vv v]) => match hp.findIdx? (fun c => match c with | .sli _ v' .. => v == v' | _ => false) with
        | some j => [i, j]
        | none => [i]
      | _ => [i]
    | none => []
  | _ => []
def sliOf (hp : List Ck) : SV → List Nat
  | .vv v => match hp.findIdx? (fun c => match c with | .sli _ v' .. => v == v' | _ => false) with
    | some j => [j]
    | none => []
  | _ => []
def prCall (u : List Nat) : CallAnn := { use := fun az hp => u ++ rowOf az hp, inc := { a := 1, i := 1 }, val := fun c => .tup [.strE (.avar c.a), .int .i64 (.var c.i)], new := fun _ h => h }
def rdCall (k : Nat) : CallAnn := { use := fun _ _ => [0, k], inc := { i := 3, a := 8, v := 1, p := 1 }, val := fun c => .tup [.vv c.v, .int .i64 (.var c.i), .int .i64 (.var (c.i + 1))], new := fun c h => match h with | [k, _] => [k, .abs c.p, .sli true c.v 36 8 (.var (c.i + 2)) (mCols c.a)] | h => h }
def smCall (u : List Nat) : CallAnn := { use := fun az hp => u ++ az.flatMap (sliOf hp), inc := { bo := 1 }, val := fun c => .bool (.var c.bo), new := fun _ h => h }
def mvCall (u : List Nat) : CallAnn := { use := fun _ _ => u, inc := { bo := 1 }, val := fun c => .bool (.var c.bo), new := fun _ h => h }
def moveCall2 : CallAnn := { use := fun az hp => [0, 2] ++ sliIdx az hp, inc := { i := 9, p := 1 }, val := fun c => .tup [mvE c.i, .int .i64 (.var (c.i + 8))], new := fun c h => match h with | [a, _, w] => [a, .abs c.p, w] | h => h }
def calls (f d : Nat) : Option CallAnn :=
  match f, d with
  | 3, 23 => some (mvCall [0, 5])
  | 3, 32 => some (prCall [0])
  | 3, 39 => some (rdCall 1)
  | 3, 52 => some (smCall [1, 0])
  | 3, 77 => some (mvCall [2, 0])
  | 3, 93 => some (rdCall 3)
  | 3, 105 => some (prCall [0, 3])
  | 3, 110 => some (rdCall 4)
  | 3, 123 => some (smCall [4, 3])
  | _, _ => none
def callees (f : Nat) : Option CallAnn :=
  match f with
  | 28 => some (onLaid cutCall)
  | 29 => some Sw.fieldsCall
  | 31 => some moveCall2
  | 48 => some Sw.indexCall
  | _ => none
def lawNew (c : Cnt) : Nat → Ck → Ck
  | 2, .abs _ => .abs c.p
  | _, .row 3 w _ => .row 3 w [.int .i64 (.var c.i)]
  | _, .row 10 w _ => .row 10 w [.int .i64 (.var (c.i + 1))]
  | _, .row 11 w _ => .row 11 w [.int .i64 (.var (c.i + 2))]
  | _, .row 12 w _ => .row 12 w [.strE (.avar c.a)]
  | _, h => h
def loops (f id : Nat) : Option LoopAnn :=
  match f, id with
  | 46, 2 => some { inc := { i := 3, a := 1, p := 1 }, slots := fun _ => [], hp := fun c h => h.mapIdx (lawNew c) }
  | _, _ => none
def hpL : List Ck := [.abs 0, .abs 1, .abs 2, .abs 3, .abs 4, .sli false 0 36 8 (.var 0) Sq.mCols]
end Go.RX.Bj
