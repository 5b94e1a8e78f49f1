/- What the executor is told of the loops that AuditCounts reaches. · What the executor is told of the calls and loops of the law ScriptPrints. · ScriptPrints: what the law and its functions leave to be shown; printed by a program of ours (wip/tools). · A reflective symbolic executor, part 33: a call that only looks, over whatever memory bears its views. · ScriptPrints: bytes in memory that is kept; the lines of any move. · ScriptPrints: heavy; the document's Print; Tell of both sides. · ScriptPrints: an answer's line, of both sides. · ScriptPrints: the law. · A reflective symbolic executor: arguments that are slices of structs of integers and bools, structs within structs too. · A reflective symbolic executor: arguments of integers and bools, structs and arrays of them, and slices of such. -/
import Derived.Test.YtgaabcinjbjbgaaDoorM25
import Derived.Test.YtgaabcinjbjbgaaDoorM26
import Derived.Test.YtgaabcinjbjbgaaDoorSpM
import Derived.ChangeArms
import Derived.ChangeSame
import Derived.DataReads
import Derived.OpenShut

namespace Go.RX.Ac
open Go.RX
def loops (f id : Nat) : Option LoopAnn :=
  match f, id with
  | _, _ => none
def pure (f : Nat) : Option (List SV → List Ck → Option PRes) :=
  match f with
  | _ => none
end Go.RX.Ac

namespace Go.RX.Sq
open Go.RX Go.RX.Lp Go.RX.Sp
def mCols : List Col := [⟨.int .u8, 1, .avar 0⟩, ⟨.int .u8, 1, .avar 1⟩, ⟨.int .u8, 1, .avar 2⟩, ⟨.int .u8, 1, .avar 3⟩, ⟨.int .u8, 1, .avar 4⟩, ⟨.int .i64, 1, .avar 5⟩, ⟨.int .u64, 1, .avar 6⟩, ⟨.val 0, 1, .lit 0⟩]
def hpM : List Ck := [.abs 0, .sli false 0 36 8 (.var 0) mCols]
def lineCall : CallAnn := { use := fun _ hp => absIdx hp, inc := { a := 1, bo := 1 }, val := fun c => .tup [.strE (.avar c.a), .bool (.var c.bo)], new := fun _ h => h }
def calls (f d : Nat) : Option CallAnn :=
  match f, d with
  | 6, 19 => some lineCall
  | 6, 29 => some strBld
  | _, _ => none
def bldNew2 (n a : E) : Ck → Ck
  | .bld b t e _ _ => .bld b t e n a
  | h => h
def lastCnt (x : E) : List Ck → List Ck
  | [] => []
  | .row b w [.int .i64 y] :: r => if r.any (fun c => match c with | .row _ _ [.int .i64 _] => true | _ => false) then .row b w [.int .i64 y] :: lastCnt x r else .row b w [.int .i64 x] :: r
  | c :: r => c :: lastCnt x r
def loops (f id : Nat) : Option LoopAnn :=
  match f, id with
  | 5, 0 => some { inc := { i := 2 }, slots := fun c => [(8, .int .i64 (.var c.i)), (3, .int .i64 (.var (c.i + 1)))] }
  | 16, 0 => some { inc := { i := 3, a := 1 }, slots := fun c => [(7, .int .i64 (.var c.i))], hp := fun c h => (lastCnt (.var (c.i + 1)) h).map (bldNew2 (.var (c.i + 2)) (.avar c.a)) }
  | _, _ => none
def openB (st : St) : Option GhostStep :=
  match look st.fr 5 with
  | some (.ptr b 0) =>
    match findAt st.hp b, absIdx st.hp with
    | some (j, .row b' w [x0, x1, x2, x3, x4, x5, x6, .vsel 0 _]), [k] => some { use := [j, k], inc := { v := 1, i := 1, a := 1 }, new := [.row b' w [x0, x1, x2, x3, x4, x5, x6, .vv st.cnt.v], st.hp.getD k .emp, .sli false st.cnt.v 5 1 (.var st.cnt.i) [⟨.int .u8, 1, .avar st.cnt.a⟩]] }
    | _, _ => none
  | _ => none
def ghosts (f id : Nat) : Option (St → Option GhostStep) :=
  match f, id with
  | 5, 4 => some openB
  | _, _ => none
def pWorks (xs : List SV) (_ : List Ck) : Option PRes :=
  match xs with
  | [] => some { val := .bool (.lit true) }
  | _ => none
def pure (f : Nat) : Option (List SV → List Ck → Option PRes) :=
  match f with
  | 4 => some pWorks
  | f => Sc.pure f
end Go.RX.Sq

namespace Go.RX.Sq
open Go.RX Go.Proofs
noncomputable def cx : Ctx := { T := TT, FT := FT, loops := loops, calls := calls, ghosts := ghosts, pure := pure }
set_option maxRecDepth 100000
noncomputable def fm_heavy : F := runF cx 5 ([SV.vv 0]) ([Ck.abs 0, Ck.sli false 0 36 8 (E.var 0) [{ ck := CK.int (Go.IntKind.u8), w := 1, a := E.avar 0 }, { ck := CK.int (Go.IntKind.u8), w := 1, a := E.avar 1 }, { ck := CK.int (Go.IntKind.u8), w := 1, a := E.avar 2 }, { ck := CK.int (Go.IntKind.u8), w := 1, a := E.avar 3 }, { ck := CK.int (Go.IntKind.u8), w := 1, a := E.avar 4 }, { ck := CK.int (Go.IntKind.i64), w := 1, a := E.avar 5 }, { ck := CK.int (Go.IntKind.u64), w := 1, a := E.avar 6 }, { ck := CK.val 0, w := 1, a := E.lit 0 }]]) ({ b := 0, v := 1, i := 1, a := 7, bo := 0, p := 1, r := 0 }) Tryd.f5
def st_heavy (_ : Program) (Post : Value → List HP → Prop) (x0 : Int) (A0 : Nat → Int) (A1 : Nat → Int) (A2 : Nat → Int) (A3 : Nat → Int) (A4 : Nat → Int) (A5 : Nat → Int) (A6 : Nat → Int) (_ : V1) (V0 : Nat → V1) (p0 : HP) : Prop :=
 Need (0 ≤ x0) (
 ∃ (I0x0 : Ext → Prop) (m0x0 : Ext → Nat), (∃ x1 : Int, ∃ x2 : Int, x1 = 0 ∧ x2 = 0 ∧ I0x0 ⟨[], [], [x1, x2], [], [], [], []⟩) ∧
 ∀ x1 : Int, ∀ x2 : Int, I0x0 ⟨[], [], [x1, x2], [], [], [], []⟩ →
 Fork (x1 < x0) (
 Need (0 ≤ x1) (
 ∀ b0 : Nat, ∃ Ig4 : Ext → Prop, (∀ (w : World) (Fs : List HP), Owns ([rowHP b0 true ([.int .u8 (A0 (Int.toNat x1)), .int .u8 (A1 (Int.toNat x1)), .int .u8 (A2 (Int.toNat x1)), .int .u8 (A3 (Int.toNat x1)), .int .u8 (A4 (Int.toNat x1)), .int .i64 (A5 (Int.toNat x1)), .int .u64 (A6 (Int.toNat x1)), (V0 (Int.toNat x1)).v]), p0] ++ Fs) w → ∃ v1 : V1, ∃ x3 : Int, ∃ A7 : (Nat → Int), Owns ([rowHP b0 true ([.int .u8 (A0 (Int.toNat x1)), .int .u8 (A1 (Int.toNat x1)), .int .u8 (A2 (Int.toNat x1)), .int .u8 (A3 (Int.toNat x1)), .int .u8 (A4 (Int.toNat x1)), .int .i64 (A5 (Int.toNat x1)), .int .u64 (A6 (Int.toNat x1)), v1.v]), p0, sliHP false 5 1 v1.v (Int.toNat x3) (tabL (Int.toNat x3) [colI .u8 1 A7])] ++ Fs) w ∧ Ig4 ⟨[], [v1], [x3], [A7], [], [], []⟩) ∧
 (∀ v1 : V1, ∀ x3 : Int, ∀ A7 : (Nat → Int), Ig4 ⟨[], [v1], [x3], [A7], [], [], []⟩ →
 Need (0 ≤ x3) (
 Need ((-9223372036854775808) ≤ (1 + (IntKind.wrap .i64 (iop .quo .i64 x3 16)))) (
 Need ((1 + (IntKind.wrap .i64 (iop .quo .i64 x3 16))) ≤ 9223372036854775807) (
 Need ((-9223372036854775808) ≤ (x2 + (1 + (IntKind.wrap .i64 (iop .quo .i64 x3 16))))) (
 Need ((x2 + (1 + (IntKind.wrap .i64 (iop .quo .i64 x3 16)))) ≤ 9223372036854775807) (
 Fork (1500 < (x2 + (1 + (IntKind.wrap .i64 (iop .quo .i64 x3 16))))) (
 Post (.bool true) []) (
 Need ((-9223372036854775808) ≤ (x1 + 1)) (
 Need ((x1 + 1) ≤ 9223372036854775807) (
 ∃ x1' : Int, ∃ x2' : Int, x1' = (x1 + 1) ∧ x2' = (x2 + (1 + (IntKind.wrap .i64 (iop .quo .i64 x3 16)))) ∧ I0x0 ⟨[], [], [x1', x2'], [], [], [], []⟩ ∧ m0x0 ⟨[], [], [x1', x2'], [], [], [], []⟩ < m0x0 ⟨[], [], [x1, x2], [], [], [], []⟩))))))))))) (
 Post (.bool false) []))
theorem vc_heavy (P : Program) (Post : Value → List HP → Prop) (x0 : Int) (A0 : Nat → Int) (A1 : Nat → Int) (A2 : Nat → Int) (A3 : Nat → Int) (A4 : Nat → Int) (A5 : Nat → Int) (A6 : Nat → Int) (v0 : V1) (V0 : Nat → V1) (p0 : HP) (L : Nat → LC) : VC P (fun v _ => Post v []) fm_heavy { iv := [x0], av := [A0, A1, A2, A3, A4, A5, A6], bo := [], bv := [], vv := [v0], va := [V0], pv := [p0] } L = st_heavy P Post x0 A0 A1 A2 A3 A4 A5 A6 v0 V0 p0 := by kernel_rfl
theorem run_heavy : runF cx 5 ([SV.vv 0]) ([Ck.abs 0, Ck.sli false 0 36 8 (E.var 0) [{ ck := CK.int (Go.IntKind.u8), w := 1, a := E.avar 0 }, { ck := CK.int (Go.IntKind.u8), w := 1, a := E.avar 1 }, { ck := CK.int (Go.IntKind.u8), w := 1, a := E.avar 2 }, { ck := CK.int (Go.IntKind.u8), w := 1, a := E.avar 3 }, { ck := CK.int (Go.IntKind.u8), w := 1, a := E.avar 4 }, { ck := CK.int (Go.IntKind.i64), w := 1, a := E.avar 5 }, { ck := CK.int (Go.IntKind.u64), w := 1, a := E.avar 6 }, { ck := CK.val 0, w := 1, a := E.lit 0 }]]) ({ b := 0, v := 1, i := 1, a := 7, bo := 0, p := 1, r := 0 }) Tryd.f5 = fm_heavy := rfl
end Go.RX.Sq

namespace Go.RX
theorem Meets.lookIn {P : Program} {f : Nat} {args : List Value} {L : List HP} {Q : Value → Prop} (hw : ∀ h ∈ L, h.wr = false) (hm : Meets P f args L fun v _ => Q v) (pre : List HP)
    (hp : ∀ (w : World) (Fs : List HP), Owns (pre ++ Fs) w → ∀ h ∈ L, ∃ S : Nat → Prop, h.p w S ∧ ∀ k, S k → k < w.heap.size) : Meets P f args pre fun v hs => Q v ∧ hs = pre := by
  intro w Fs ho
  have hp := hp w Fs ho
  have hc : ∀ i : Nat, ∃ S : Nat → Prop, ∀ x, L[i]? = some x → x.p w S ∧ ∀ k, S k → k < w.heap.size := by
    intro i
    cases hi : L[i]? with
    | none => exact ⟨fun _ => False, fun x hx => nomatch hx⟩
    | some y =>
      obtain ⟨S, hS⟩ := hp y (List.mem_of_getElem? hi)
      exact ⟨S, fun x hx => by cases hx; exact hS⟩
  obtain ⟨S, hS⟩ := Classical.axiomOfChoice hc
  have o2 : Owns (L ++ [keptHP w.heap.size w]) w := by
    refine ⟨fun i => if i < L.length then S i else fun k => k < w.heap.size, ⟨?_, ?_⟩⟩
    · intro i x hx
      by_cases hi : i < L.length
      · rw [List.getElem?_append_left hi] at hx
        simp only [if_pos hi]
        exact hS i x hx
      · rw [List.getElem?_append_right (by omega)] at hx
        simp only [if_neg hi]
        have : i - L.length = 0 := by
          rcases Nat.eq_zero_or_pos (i - L.length) with h | h
          · exact h
          · rw [List.getElem?_eq_none (by simp; omega)] at hx
            cases hx
        rw [this] at hx
        cases hx
        exact ⟨⟨fun _ => Iff.rfl, fun _ _ => rfl⟩, fun _ h => h⟩
    · intro i j x y hij hx hy hwr
      have hf : ∀ (i : Nat) x, (L ++ [keptHP w.heap.size w])[i]? = some x → x.wr = false := by
        intro i x hx
        rcases List.mem_append.1 (List.mem_of_getElem? hx) with h | h
        · exact hw x h
        · rw [List.mem_singleton] at h
          rw [h]
          rfl
      rw [hf i x hx, hf j y hy] at hwr
      simp at hwr
  refine (hm w _ o2).mono ?_
  rintro e w' ⟨v, hs, rfl, hq, ⟨S', hS'⟩, hsm⟩
  have hk := (hS'.at_ hs.length (keptHP w.heap.size w) (by simp)).1
  obtain ⟨T, hT⟩ := ho
  exact ⟨v, pre, rfl, ⟨hq, rfl⟩, ⟨T, hT.keep hsm.size fun k hk' => hk.2 k hk'⟩, hsm⟩
end Go.RX

namespace Go.RX.Sq
open Go Go.RX Go.Proofs Go.RX.Ln Go.RX.Lp Go.RX.Lf Go.RX.Sp Go.RowKit
variable {w0 : World} {n0 : Nat}
theorem pureOk (C : Ctx) (hC : C.pure = pure) : PureOk Tryd.prog C := by
  intro f xs hp r ρ h hvc
  unfold pureRes at h
  rw [hC] at h
  unfold pure at h
  split at h
  · rename_i g hg
    split at hg
    · cases hg
      unfold pWorks at h
      split at h
      · cases h
        exact Sc.works_meets
      · cases h
    · exact Sc.pure_ok { C with pure := Sc.pure } rfl f xs hp r ρ (by unfold pureRes; simp only; rw [hg]; exact h) hvc
  · cases h
structure BV (n0 : Nat) (w0 : World) (v : V1) (l : List UInt8) : Prop where
  views : World.views w0 v.v l.length (cellsB l)
  below : ∀ k, v.v.ownBlock = some k → 0 < l.length → k < n0
theorem tab_seg (k : IntKind) (n : Nat) (f : Nat → Int) : tabL n [colI k 1 f] = segCells k n f := tab_single (ρ := { av := [f] }) k n (.avar 0)
theorem cellsB_seg (l : List UInt8) : cellsB l = segCells .u8 l.length (bytesF l) := tab_seg .u8 l.length (bytesF l)
theorem cellsB_len (l : List UInt8) : (cellsB l).length = l.length := by rw [cellsB_seg, segCells_length]
theorem bv_p {w : World} {v : V1} {l : List UInt8} (hk : ∀ k, k < n0 → w.heap[k]? = w0.heap[k]?) (h : BV n0 w0 v l) : (sliB v l).p w (fun k => v.v.ownBlock = some k ∧ 0 < l.length) := by
  obtain ⟨⟨a, m, c, hv, hm, hmc, h0, hc⟩, hb⟩ := h
  refine ⟨?_, fun k => by simp⟩
  simp only [Bool.false_eq_true, if_false]
  refine ⟨by rw [cellsB_len]; omega, a, m, c, hv, hm, hmc, h0, fun ad had => ?_⟩
  obtain ⟨hs, hcell⟩ := hc ad had
  refine ⟨hs, fun j u hu => ?_⟩
  have hj : 0 < l.length := by
    have := (List.getElem?_eq_some_iff.1 hu).1
    rw [cellsB_len] at this
    omega
  have hbk := hb ad.block (by rw [hv, had]; rfl) hj
  rw [← hcell j u hu]
  have hsp := hs hj
  obtain ⟨bk, o, sp⟩ := ad
  simp only at hsp hbk
  subst hsp
  rw [addr_add_at]
  simp only [World.cell?, hk bk hbk]
theorem view_kept {v : V1} {l : List UInt8} (h : BV n0 w0 v l) (L : List HP) (hL : ∀ x ∈ L, x = keptHP n0 w0 ∨ x = sliB v l) : ∀ (w : World) (Fs : List HP), Owns ([keptHP n0 w0] ++ Fs) w → ∀ x ∈ L, ∃ S : Nat → Prop, x.p w S ∧ ∀ k, S k → k < w.heap.size := by
  intro w Fs ⟨S, hS⟩ x hx
  obtain ⟨hp, hlt⟩ := hS.at_ 0 (keptHP n0 w0) rfl
  rcases hL x hx with rfl | rfl
  · exact ⟨_, hp, hlt⟩
  · exact ⟨_, bv_p hp.2 h, fun k hk => hlt k ((hp.1 k).2 (h.below k hk.1 hk.2))⟩
theorem pform_meets (k : Nat) (hk : k < 1 ∨ 15 < k) (h255 : k ≤ 255) : Meets Tryd.prog 20 [.int .u8 k] [] fun v hs => v = .tuple #[.string ⟨#[]⟩, .string ⟨#[]⟩, .bool false] ∧ hs = [] := by
  refine Meets.of_bare (C := cx0) (cnt := { i := 1 }) (ρ := { iv := [(k : Int)] }) okT okFT okM Tryd.func20 (by constructor <;> rfl) (fun v => v = .tuple #[.string ⟨#[]⟩, .string ⟨#[]⟩, .bool false]) (args := [.int .u8 (.var 0)]) run_pform (vc_pform Tryd.prog (fun v _ => v = .tuple #[.string ⟨#[]⟩, .string ⟨#[]⟩, .bool false]) k (fun _ => LC.none)) ?_ (Sc.pure_ok cx0 rfl)
  unfold st_pform
  intro _
  exact ⟨by omega, fun _ => ⟨by omega, fun _ => ⟨fun _ => rfl, fun h => absurd (by omega) h⟩⟩⟩
theorem line_none (k : Nat) (x0 x1 x2 x3 x4 x5 : Int) (l : List UInt8) (hk : k < 1 ∨ 15 < k) : lineM k x0 x1 x2 x3 x4 x5 l = [] := by
  unfold lineM
  split <;> first | rfl | omega
theorem pl0_meets (k : Nat) (x0 x1 x2 x3 x4 x5 : Int) (l : List UInt8) (v : V1) (hk : k < 1 ∨ 15 < k) (h255 : k ≤ 255) : Meets Tryd.prog 12 [movV k x0 x1 x2 x3 x4 x5 v] [keptHP n0 w0, sliB v l] fun x _ => x = lineV (lineM k x0 x1 x2 x3 x4 x5 l) := by
  rw [line_none k x0 x1 x2 x3 x4 x5 l hk]
  have := Meets.of_runE (C := cx0) (cnt := { i := 8, a := 1, p := 1, v := 1 }) (ρ := { iv := [x0, x1, x2, x3, x4, x5, (l.length : Int), (k : Int)], av := [bytesF l], vv := [v], pv := [keptHP n0 w0] }) okT okFT okM Tryd.func12 (by constructor <;> rfl) (Post := fun x _ => x = lineV [])
    (args := [.agg [.int .u8 (.var 7), .int .u8 (.var 0), .int .u8 (.var 1), .int .u8 (.var 2), .int .u8 (.var 3), .int .i64 (.var 4), .int .u64 (.var 5), .vv 0]]) (hp := [.abs 0, .sli false 0 5 1 (.var 6) [⟨.int .u8, 1, .avar 0⟩]]) run_pl0 (vc_pl0 Tryd.prog (fun x _ => x = lineV []) x0 x1 x2 x3 x4 x5 l.length k (bytesF l) v (keptHP n0 w0) (fun _ => LC.none)) ?_ (Sc.pure_ok cx0 rfl)
  · exact this
  · unfold st_pl0
    intro _
    refine ⟨_, pform_meets k hk h255, ?_⟩
    rintro _ _ ⟨rfl, rfl⟩
    exact ⟨rfl, rfl, rfl⟩
theorem pline_view (hL : Laid0 w0 n0) (k : Nat) (x0 x1 x2 x3 x4 x5 : Int) (l : List UInt8) (v : V1) (h255 : k ≤ 255) (h : Rg x0 x1 x2 x3 x4 x5 l) :
    Meets Tryd.prog 12 [movV k x0 x1 x2 x3 x4 x5 v] [keptHP n0 w0, sliB v l] fun x _ => x = lineV (lineM k x0 x1 x2 x3 x4 x5 l) := by
  by_cases hk : k < 1 ∨ 15 < k
  · exact pl0_meets k x0 x1 x2 x3 x4 x5 l v hk h255
  · have : k = 1 ∨ k = 2 ∨ k = 3 ∨ k = 4 ∨ k = 5 ∨ k = 6 ∨ k = 7 ∨ k = 8 ∨ k = 9 ∨ k = 10 ∨ k = 11 ∨ k = 12 ∨ k = 13 ∨ k = 14 ∨ k = 15 := by omega
    rcases this with rfl | rfl | rfl | rfl | rfl | rfl | rfl | rfl | rfl | rfl | rfl | rfl | rfl | rfl | rfl
    · exact pl1_meets hL x0 x1 x2 x3 x4 x5 l v h
    · exact pl2_meets hL x0 x1 x2 x3 x4 x5 l v h
    · exact pl3_meets hL x0 x1 x2 x3 x4 x5 l v h
    · exact pl4_meets hL x0 x1 x2 x3 x4 x5 l v h
    · exact pl5_meets hL x0 x1 x2 x3 x4 x5 l v h
    · exact pl6_meets hL x0 x1 x2 x3 x4 x5 l v h
    · exact pl7_meets hL x0 x1 x2 x3 x4 x5 l v h
    · exact pl8_meets hL x0 x1 x2 x3 x4 x5 l v h
    · exact pl9_meets hL x0 x1 x2 x3 x4 x5 l v h
    · exact pl10_meets hL x0 x1 x2 x3 x4 x5 l v h
    · exact pl11_meets hL x0 x1 x2 x3 x4 x5 l v h
    · exact pl12_meets hL x0 x1 x2 x3 x4 x5 l v h
    · exact pl13_meets hL x0 x1 x2 x3 x4 x5 l v h
    · exact pl14_meets hL x0 x1 x2 x3 x4 x5 l v h
    · exact pl15_meets hL x0 x1 x2 x3 x4 x5 l v h
theorem pline (hL : Laid0 w0 n0) (k : Nat) (x0 x1 x2 x3 x4 x5 : Int) (l : List UInt8) (v : V1) (h255 : k ≤ 255) (h : Rg x0 x1 x2 x3 x4 x5 l) (hb : BV n0 w0 v l) :
    Meets Tryd.prog 12 [movV k x0 x1 x2 x3 x4 x5 v] [keptHP n0 w0] fun x hs => x = lineV (lineM k x0 x1 x2 x3 x4 x5 l) ∧ hs = [keptHP n0 w0] := by
  have hv := view_kept hb [keptHP n0 w0, sliB v l] (by simp)
  have hw : ∀ x ∈ [keptHP n0 w0, sliB v l], x.wr = false := by
    intro x hx
    simp only [List.mem_cons, List.mem_nil_iff, or_false] at hx
    rcases hx with rfl | rfl <;> rfl
  exact Meets.lookIn hw (pline_view hL k x0 x1 x2 x3 x4 x5 l v h255 h) _ hv
end Go.RX.Sq

namespace Go.RX.Sq
open Go Go.RX Go.Proofs Go.RX.Ln Go.RX.Lp Go.RX.Lf Go.RX.Sp Go.RowKit
variable {w0 : World} {n0 : Nat}
structure Mv where
  n : Nat
  A : Nat → Nat → Int
  V : Nat → V1
  B : Nat → List UInt8
def Mv.cells (M : Mv) : List Value := tabL M.n [colI .u8 1 (M.A 0), colI .u8 1 (M.A 1), colI .u8 1 (M.A 2), colI .u8 1 (M.A 3), colI .u8 1 (M.A 4), colI .i64 1 (M.A 5), colI .u64 1 (M.A 6), colV 1 (fun j => (M.V j).v)]
abbrev sliM (v : V1) (M : Mv) : HP := sliHP false 36 8 v.v M.n M.cells
structure MvOk (n0 : Nat) (w0 : World) (M : Mv) : Prop where
  b : ∀ i, i < M.n → BV n0 w0 (M.V i) (M.B i)
  r : ∀ i j, i < M.n → j < 5 → 0 ≤ M.A j i ∧ M.A j i ≤ 255
  g4 : ∀ i, i < M.n → -9223372036854775808 ≤ M.A 5 i ∧ M.A 5 i ≤ 9223372036854775807
  g5 : ∀ i, i < M.n → 0 ≤ M.A 6 i ∧ M.A 6 i ≤ 18446744073709551615
def Small (M : Mv) : Prop := ∀ i, i < M.n → (M.B i).length ≤ 10000000
def lineAt (M : Mv) (i : Nat) : List UInt8 := lineM (M.A 0 i).toNat (M.A 1 i) (M.A 2 i) (M.A 3 i) (M.A 4 i) (M.A 5 i) (M.A 6 i) (M.B i)
def movAt (M : Mv) (i : Nat) : Value := .agg #[.int .u8 (M.A 0 i), .int .u8 (M.A 1 i), .int .u8 (M.A 2 i), .int .u8 (M.A 3 i), .int .u8 (M.A 4 i), .int .i64 (M.A 5 i), .int .u64 (M.A 6 i), (M.V i).v]
theorem MvOk.rg {M : Mv} (h : MvOk n0 w0 M) (hs : Small M) {i : Nat} (hi : i < M.n) : Rg (M.A 1 i) (M.A 2 i) (M.A 3 i) (M.A 4 i) (M.A 5 i) (M.A 6 i) (M.B i) :=
  ⟨h.r i 1 hi (by decide), h.r i 2 hi (by decide), h.r i 3 hi (by decide), h.r i 4 hi (by decide), h.g4 i hi, h.g5 i hi, hs i hi⟩
theorem mov_eq {M : Mv} (h : MvOk n0 w0 M) {i : Nat} (hi : i < M.n) : movAt M i = movV (M.A 0 i).toNat (M.A 1 i) (M.A 2 i) (M.A 3 i) (M.A 4 i) (M.A 5 i) (M.A 6 i) (M.V i) := by
  have := h.r i 0 hi (by decide)
  unfold movAt movV
  rw [show (((M.A 0 i).toNat : Nat) : Int) = M.A 0 i by omega]
theorem plineAt (hL : Laid0 w0 n0) {M : Mv} (h : MvOk n0 w0 M) (hs : Small M) {i : Nat} (hi : i < M.n) : Meets Tryd.prog 12 [movAt M i] [keptHP n0 w0] fun x hs => x = lineV (lineAt M i) ∧ hs = [keptHP n0 w0] := by
  rw [mov_eq h hi]
  exact pline hL _ _ _ _ _ _ _ _ _ (by have := h.r i 0 hi (by decide); omega) (h.rg hs hi) (h.b i hi)
theorem line_len (k : Nat) {x0 x1 x2 x3 x4 x5 : Int} {l : List UInt8} (h : Rg x0 x1 x2 x3 x4 x5 l) : (lineM k x0 x1 x2 x3 x4 x5 l).length ≤ 30000000 := by
  obtain ⟨g0, g1, g2, g3, g4, g5, gl⟩ := h
  have l0 := lenD x0 (by omega)
  have l1 := lenD x1 (by omega)
  have l2 := lenD x2 (by omega)
  have l3 := lenD x3 (by omega)
  have l4 := lenI x4 g4
  have l5 := lenD x5 (by omega)
  have l6 := lenH l gl
  rw [rowS0] at l0 l1 l2 l3 l4 l5 l6
  unfold lineM devS
  split <;> (try split) <;> simp only [List.length_append, List.length_cons, List.length_nil] <;> omega
theorem own_view {R : HP} {v : V1} {l : List UInt8} (hb : BV n0 w0 v l) (w : World) (Fs : List HP) (ho : Owns ([R, keptHP n0 w0] ++ Fs) w) : Owns ([R, keptHP n0 w0, sliB v l] ++ Fs) w := by
  have o1 : Owns (keptHP n0 w0 :: R :: Fs) w := ho.perm (List.Perm.swap _ _ _)
  have o2 := Owns.dup rfl o1
  have o3 := Ent.put (a := [keptHP n0 w0, keptHP n0 w0]) 1 (keptHP n0 w0) (sliB v l) rfl (fun h => h) (fun w S hp => ⟨_, fun k hk => (hp.1 k).2 (hb.below k hk.1 hk.2), bv_p hp.2 hb⟩) w (R :: Fs) o2
  refine o3.perm ?_
  show (keptHP n0 w0 :: sliB v l :: R :: Fs).Perm (R :: keptHP n0 w0 :: sliB v l :: Fs)
  exact ((List.Perm.swap R (sliB v l) Fs).cons _).trans (List.Perm.swap R (keptHP n0 w0) (sliB v l :: Fs))
theorem heavy_meets (v : V1) {M : Mv} (h : MvOk n0 w0 M) (hn : M.n ≤ 9223372036854775807) (hlen : ∀ i, i < M.n → (M.B i).length ≤ 9223372036854775807) : Meets Tryd.prog 5 [v.v] [keptHP n0 w0, sliM v M] fun x hs => (∃ b : Bool, x = .bool b ∧ (b = false → Small M)) ∧ hs = [keptHP n0 w0, sliM v M] := by
  have hr : Meets Tryd.prog 5 [v.v] [keptHP n0 w0, sliM v M] fun x _ => ∃ b : Bool, x = .bool b ∧ (b = false → Small M) := by
    have := Meets.of_runE (C := cx) (cnt := { i := 1, a := 7, p := 1, v := 1 }) (ρ := { iv := [(M.n : Int)], av := [M.A 0, M.A 1, M.A 2, M.A 3, M.A 4, M.A 5, M.A 6], vv := [v], va := [M.V], pv := [keptHP n0 w0] }) okT okFT okM Tryd.func5 (by constructor <;> rfl) (Post := fun x _ => ∃ b : Bool, x = .bool b ∧ (b = false → Small M))
      (args := [.vv 0]) (hp := hpM) run_heavy (vc_heavy Tryd.prog (fun x _ => ∃ b : Bool, x = .bool b ∧ (b = false → Small M)) M.n (M.A 0) (M.A 1) (M.A 2) (M.A 3) (M.A 4) (M.A 5) (M.A 6) v M.V (keptHP n0 w0) (fun _ => LC.none)) ?_ (pureOk cx rfl)
    · exact this
    · unfold st_heavy
      refine ⟨by omega, fun _ => ?_⟩
      refine ⟨fun e => 0 ≤ e.i.getD 0 0 ∧ e.i.getD 0 0 ≤ M.n ∧ 0 ≤ e.i.getD 1 0 ∧ e.i.getD 1 0 ≤ 1500 ∧ ∀ j : Nat, (j : Int) < e.i.getD 0 0 → ((M.B j).length : Int) / 16 ≤ e.i.getD 1 0, fun e => ((M.n : Int) - e.i.getD 0 0).toNat,
        ⟨0, 0, rfl, rfl, by simp, by simp, by simp, by simp, fun j hj => by simp at hj; omega⟩, ?_⟩
      rintro i s ⟨hi0, hi1, hs0, hs1, hB⟩
      simp only [List.getD_cons_zero, List.getD_cons_succ] at hi0 hi1 hs0 hs1 hB
      refine ⟨fun hi => ⟨hi0, fun _ => fun b => ?_⟩, fun hi => ?_⟩
      · have hit : i.toNat < M.n := by omega
        refine ⟨fun e => e.i.getD 0 0 = (M.B i.toNat).length, fun w Fs ho => ⟨M.V i.toNat, (M.B i.toNat).length, bytesF (M.B i.toNat), own_view (h.b i.toNat hit) w Fs ho, rfl⟩, ?_⟩
        rintro v1 x3 A7 hx
        simp only [List.getD_cons_zero] at hx
        subst hx
        have hl := hlen i.toNat hit
        have hq : IntKind.wrap .i64 (iop .quo .i64 ((M.B i.toNat).length : Int) 16) = ((M.B i.toNat).length : Int) / 16 := by
          simp only [iop]
          rw [Int.tdiv_eq_ediv_of_nonneg (by omega)]
          exact IntWalk.i64_in _ (by omega)
        rw [hq]
        refine ⟨by omega, fun _ => ⟨by omega, fun _ => ⟨by omega, fun _ => ⟨by omega, fun _ => ⟨by omega, fun _ => ⟨fun _ => ⟨true, rfl, fun h => by cases h⟩, fun hle => ⟨by omega, fun _ => ⟨by omega, fun _ => ⟨_, _, rfl, rfl, ⟨?_, ?_, ?_, ?_, ?_⟩, ?_⟩⟩⟩⟩⟩⟩⟩⟩⟩
        · simp only [List.getD_cons_zero]; omega
        · simp only [List.getD_cons_zero]; omega
        · simp only [List.getD_cons_zero, List.getD_cons_succ]; omega
        · simp only [List.getD_cons_zero, List.getD_cons_succ]; omega
        · simp only [List.getD_cons_zero, List.getD_cons_succ]
          intro j hj
          by_cases hji : j = i.toNat
          · subst hji
            omega
          · have := hB j (by omega)
            omega
        · simp only [List.getD_cons_zero]; omega
      · refine ⟨false, rfl, fun _ j hj => ?_⟩
        have := hB j (by omega)
        omega
  exact Meets.lookIn (by
    intro x hx
    simp only [List.mem_cons, List.mem_nil_iff, or_false] at hx
    rcases hx with rfl | rfl <;> rfl) hr _ fun w Fs ⟨S, hS⟩ x hx => by
      obtain ⟨i, hi⟩ := List.getElem?_of_mem hx
      have hlt : i < 2 := (List.getElem?_eq_some_iff.1 hi).1
      exact ⟨S i, hS.at_ i x (by rw [List.getElem?_append_left hlt]; exact hi)⟩
def prG : Nat → List UInt8 → List (List UInt8) → List UInt8 × Int
  | _, acc, [] => (acc, 0)
  | i, acc, s :: r => if i = 1000 then ([], 3) else if s = [] then ([], 2) else if 262144 < acc.length + s.length + 1 then ([], 3) else prG (i + 1) (acc ++ s ++ [10]) r
def linesOf (M : Mv) : List (List UInt8) := (List.range M.n).map (lineAt M)
theorem lines_drop (M : Mv) {i : Nat} (hi : i < M.n) : (linesOf M).drop i = lineAt M i :: (linesOf M).drop (i + 1) := by
  have hl : i < (linesOf M).length := by simp [linesOf]; exact hi
  rw [List.drop_eq_getElem_cons hl]
  simp [linesOf]
theorem sd_len {f : Nat → Int} {s : List UInt8} (h : Sd f s) : f 0 = s.length := by
  have h1 := h.1
  have h2 := h.2
  have := strD_length f
  rw [h1] at this
  omega
def prV (r : List UInt8 × Int) : Value := .tuple #[strV r.1, .int .i64 r.2]
end Go.RX.Sq

namespace Go.RX.Sq
open Go Go.RX Go.Proofs Go.RX.Ln Go.RX.Lp Go.RX.Lf Go.RX.Sp Go.RowKit
variable {w0 : World} {n0 : Nat}
def isS (q : Bool) : List UInt8 := if q then [121, 101, 115] else [110, 111]
end Go.RX.Sq

namespace Go.RX.Sq
open Go Go.RX Go.Proofs Go.RX.Ln Go.RX.Lp Go.RX.Lf Go.RX.Sp Go.RowKit
variable {w0 : World} {n0 : Nat}
theorem bstring0 (b : Nat) (A : Nat → Int) : Meets Tryd.prog 15 [.pointer (some ⟨b, 0, none⟩)] [bldHP b 47 5 (segCells .u8 0 A)] fun x hs => x = strV [] ∧ hs = [] := by
  refine Au.meets_drop rfl fun w S hS => ?_
  obtain ⟨p, v, hbk, _, hown, hne, hSS⟩ := hS
  have fin : ∀ {w' : World}, Below w.heap.size w w' → Same w w' ∧ ∀ k, k < w.heap.size → ¬ S k → w'.heap[k]? = w.heap[k]? := fun {w'} h => ⟨⟨h.os, h.tape, h.output, h.size⟩, fun k hk _ => h.block k hk⟩
  rcases hown.2 with ⟨rfl, _⟩ | ⟨g, cap, cur, rfl, hbg, hg, _, _, _, _⟩
  · exact (Any.Builder_String_nil Tryd.lays169 Tryd.Builder_Extra_169 w.heap.size b p w hbk).mono fun e w' ⟨he, hb⟩ => ⟨he, fin hb⟩
  · by_cases hc0 : cap = 0
    · subst hc0
      exact (Any.Builder_String_noroom Tryd.lays169 Tryd.Builder_Extra_169 w.heap.size b g p cur w (Nat.le_refl _) hbk hg).mono fun e w' ⟨he, hb⟩ => ⟨he, fin hb⟩
    · exact (Any.Builder_String_room Tryd.lays169 Tryd.Builder_Extra_169 w.heap.size b g cap p w hc0 hbk).mono fun e w' ⟨he, hb⟩ => ⟨he, fin hb⟩
theorem bytes_back (acc : List UInt8) (A : Nat → Int) (h : ∀ j, j < acc.length → A j = bytesF acc j) : ((List.range acc.length).map fun j => UInt8.ofNat (A j).toNat) = acc := by
  apply List.ext_getElem
  · simp
  · intro j h1 h2
    have hj : j < acc.length := by simpa using h1
    simp only [List.getElem_map, List.getElem_range]
    rw [h j hj]
    unfold bytesF
    rw [List.getD_eq_getElem?_getD, List.getElem?_eq_getElem hj]
    simp
theorem bstring (b : Nat) (acc : List UInt8) (A : Nat → Int) (h : ∀ j, j < acc.length → A j = bytesF acc j) : Meets Tryd.prog 15 [.pointer (some ⟨b, 0, none⟩)] [bldHP b 47 5 (segCells .u8 acc.length A)] fun x hs => x = strV acc ∧ hs = [] := by
  by_cases h0 : acc.length = 0
  · have := List.eq_nil_of_length_eq_zero h0
    subst this
    exact bstring0 b A
  · have := bstring_meets b acc.length A (by omega) (fun j hj => by rw [h j hj]; exact bytesF_range acc j)
    rw [bytes_back acc A h] at this
    exact this
end Go.RX.Sq

namespace Go.RX
def flatF (P : Program) (g : TypeId → Option (List (Option IntKind))) : List Field → Nat → Option (List (Option IntKind))
  | [], _ => some []
  | f :: r, off => match g f.type, flatF P g r (off + P.cellsOf f.type) with
    | some ks, some l => if f.offset = off ∧ P.cellsOf f.type = ks.length then some (ks ++ l) else none
    | _, _ => none
def cellV : Option IntKind → Int → Value
  | some k, n => .int k n
  | none, n => .bool (!(n == 0))
def cellWf : Option IntKind → Int → Prop
  | some k, n => (Lit.int k n).wf = true
  | none, _ => True
def CellOk (k : Option IntKind) (v : Value) : Prop := ∃ n, v = cellV k n ∧ cellWf k n
section
variable {H : Type} {enc : TypeId × Value → H} {P : Program} {w : World} {base : Nat} {spare : Nat → Bool} {held : Bool}
theorem flatF_trod {g : TypeId → Option (List (Option IntKind))} {cs : List Value} (hg : ∀ t ks cs', g t = some ks → (∃ n x, DataW.trod enc P w base spare held n t cs' = some x) → ∀ (j : Nat) k, ks[j]? = some k → ∃ v, cs'[j]? = some v ∧ CellOk k v) :
    ∀ {fs : List Field} {off : Nat} {ks : List (Option IntKind)}, flatF P g fs off = some ks → (∀ f ∈ fs, ∃ n x, DataW.trod enc P w base spare held n f.type ((cs.drop f.offset).take (P.cellsOf f.type)) = some x) →
      ∀ (j : Nat) k, ks[j]? = some k → ∃ v, cs[off + j]? = some v ∧ CellOk k v
  | [], off, ks, h, _, j, k, hk => by
    simp only [flatF, Option.some.injEq] at h
    subst h
    simp at hk
  | f :: r, off, ks, h, hf, j, k, hk => by
    unfold flatF at h
    split at h
    · rename_i k1 l h1 h2
      split at h
      · rename_i hc
        obtain ⟨rfl, hc2⟩ := hc
        cases h
        by_cases hj : j < k1.length
        · rw [List.getElem?_append_left hj] at hk
          obtain ⟨v, hv, hok⟩ := hg _ _ _ h1 (hf f List.mem_cons_self) j k hk
          refine ⟨v, ?_, hok⟩
          rw [List.getElem?_take] at hv
          split at hv
          · rw [List.getElem?_drop] at hv; exact hv
          · cases hv
        · rw [List.getElem?_append_right (by omega)] at hk
          obtain ⟨v, hv, hok⟩ := flatF_trod hg h2 (fun f' hf' => hf f' (List.mem_cons_of_mem _ hf')) _ k hk
          refine ⟨v, ?_, hok⟩
          rw [← hv, hc2]
          congr 1
          omega
      · cases h
    · cases h
end
def IsTab (ks : List (Option IntKind)) (w : World) (a : Option Addr) (len cap : Nat) (F : Nat → Nat → Int) : Prop :=
  (a = none ∧ len = 0 ∧ cap = 0) ∨
  ∃ x, a = some x ∧ len ≤ cap ∧ cap ≤ maxLen ∧ ∀ i, i < len → ∀ (j : Nat) k, ks[j]? = some k → w.cell? (x.add (i * ks.length + j)) = some (cellV k (F i j)) ∧ cellWf k (F i j)
end Go.RX

namespace Go.RX
def flatA (P : Program) : Nat → TypeId → Option (List (Option IntKind))
  | 0, _ => none
  | n + 1, t => match P.underlying t with
    | some (.int k) => some [some k]
    | some .bool => some [none]
    | some (.struct fs) => flatF P (flatA P n) fs.toList 0
    | some (.array m e) => match flatA P n e with
      | some ks => if P.cellsOf e = ks.length then some (List.replicate m ks).flatten else none
      | none => none
    | _ => none
section
variable {H : Type} {enc : TypeId × Value → H} {P : Program} {w : World} {base : Nat} {spare : Nat → Bool} {held : Bool}
theorem flatR {ks : List (Option IntKind)} {cs : List Value} : ∀ (m off : Nat), (∀ i, i < m → ∀ (j : Nat) k, ks[j]? = some k → ∃ v, cs[off + i * ks.length + j]? = some v ∧ CellOk k v) →
    ∀ (j : Nat) k, (List.replicate m ks).flatten[j]? = some k → ∃ v, cs[off + j]? = some v ∧ CellOk k v
  | 0, _, _, j, k, hk => by simp at hk
  | m + 1, off, h, j, k, hk => by
    rw [List.replicate_succ, List.flatten_cons] at hk
    by_cases hj : j < ks.length
    · rw [List.getElem?_append_left hj] at hk
      simpa using h 0 (by omega) j k hk
    · rw [List.getElem?_append_right (by omega)] at hk
      obtain ⟨v, hv, hok⟩ := flatR m (off + ks.length) (fun i hi j k hk => by
        obtain ⟨v, hv, hok⟩ := h (i + 1) (by omega) j k hk
        exact ⟨v, by rw [← hv, Nat.succ_mul]; congr 1; omega, hok⟩) _ k hk
      exact ⟨v, by rw [← hv]; congr 1; omega, hok⟩
theorem flatA_trod : ∀ {n : Nat} {t : TypeId} {ks : List (Option IntKind)} {cs : List Value}, flatA P n t = some ks → (∃ m x, DataW.trod enc P w base spare held m t cs = some x) → ∀ (j : Nat) k, ks[j]? = some k → ∃ v, cs[j]? = some v ∧ CellOk k v
  | 0, _, _, _, h, _, _, _, _ => by cases h
  | n + 1, t, ks, cs, h, ⟨m, x, hx⟩, j, k, hk => by
    unfold flatA at h
    split at h
    · rename_i kk ht
      cases h
      obtain ⟨z, rfl, _, hw⟩ := DataW.trod_int ht hx
      match j, hk with
      | 0, hk =>
        simp at hk
        subst hk
        exact ⟨_, rfl, z, rfl, hw⟩
      | j + 1, hk => simp at hk
    · rename_i ht
      cases h
      cases m with
      | zero => simp [DataW.trod] at hx
      | succ m =>
        have hb : ∃ b, cs = [.bool b] := by
          unfold DataW.trod at hx
          rw [ht] at hx
          split at hx <;> simp_all
        obtain ⟨b, rfl⟩ := hb
        match j, hk with
        | 0, hk =>
          simp at hk
          subst hk
          exact ⟨_, rfl, if b then 1 else 0, by cases b <;> rfl, trivial⟩
        | j + 1, hk => simp at hk
    · rename_i fs ht
      obtain ⟨ys, n', _, _, _, hyl, hf⟩ := DataW.trod_struct ht hx
      have := flatF_trod (cs := cs) (fun t ks cs' h1 h2 => flatA_trod (n := n) h1 h2) h (fun f hf' => by
        obtain ⟨i, hi⟩ := List.getElem?_of_mem hf'
        have hi' : fs[i]? = some f := by rw [← hi, Array.getElem?_toList]
        have h1 := hf i f hi'
        have hil : i < fs.size := (Array.getElem?_eq_some_iff.1 hi').1
        exact ⟨n', ys[i]'(by omega), h1.trans (List.getElem?_eq_getElem _)⟩) j k hk
      simpa using this
    · rename_i l e ht
      split at h
      · rename_i ks' he
        split at h
        · rename_i hc
          cases h
          obtain ⟨xs, n', _, _, _, hxl, hf⟩ := DataW.trod_array ht hx
          have := flatR (cs := cs) l 0 (fun i hi j k hk => by
            have h1 := hf i hi
            obtain ⟨v, hv, hok⟩ := flatA_trod (n := n) he ⟨n', xs[i]'(by omega), h1.trans (List.getElem?_eq_getElem _)⟩ j k hk
            rw [List.getElem?_take] at hv
            split at hv
            · rw [List.getElem?_drop, hc] at hv
              exact ⟨v, by rw [← hv]; congr 1; omega, hok⟩
            · cases hv) j k hk
          simpa using this
        · cases h
      · cases h
    · cases h
end
theorem open_tabA {H : Type} {enc : TypeId × Value → H} {P : Program} {w : World} {base : Nat} {spare : Nat → Bool} {held : Bool} {t e : TypeId} {n : Nat} {ks : List (Option IntKind)} {fuel : Nat} {cs : List Value} {x : DataW H × List MemPlace}
    (ht : P.underlying t = some (.slice e)) (he : flatA P n e = some ks) (hc : P.cellsOf e = ks.length) (h : DataW.trod enc P w base spare held fuel t cs = some x) :
    ∃ a len cap F, cs = [.slice a len cap] ∧ IsTab ks w a len cap F := by
  rcases DataW.trod_slice ht h with ⟨rfl, _⟩ | ⟨a, len, cap, elems, rest, m, _, rfl, _, hb, hl, hm, hlen, hel, _, _⟩
  · exact ⟨none, 0, 0, fun _ _ => 0, rfl, .inl ⟨rfl, rfl, rfl⟩⟩
  have key : ∀ i j, ∃ z : Int, i < len → ∀ k, ks[j]? = some k → w.cell? (a.add (i * ks.length + j)) = some (cellV k z) ∧ cellWf k z := by
    intro i j
    by_cases hi : i < len
    · cases hk : ks[j]? with
      | none => exact ⟨0, fun _ k hk' => by cases hk'⟩
      | some k =>
        have h1 := hel i hi
        have hg : elems[i]? = some (elems[i]'(by omega)) := List.getElem?_eq_getElem (by omega)
        rw [hg, Option.bind_eq_some_iff] at h1
        obtain ⟨cs', hcs, htr⟩ := h1
        obtain ⟨v, hv, z, rfl, hz⟩ := flatA_trod he ⟨_, _, htr⟩ j k hk
        obtain ⟨_, hcl, hat⟩ := World.cells?_some hcs
        have hjl : j < ks.length := (List.getElem?_eq_some_iff.1 hk).1
        refine ⟨z, fun _ k' hk' => ?_⟩
        cases hk'
        refine ⟨?_, hz⟩
        have := hat j (by rw [hc]; exact hjl)
        rw [hv, hc, addr_add_add] at this
        exact this
    · exact ⟨0, fun h => absurd h hi⟩
  refine ⟨some a, len, cap, fun i j => (key i j).choose, rfl, .inr ⟨a, rfl, hl, hm, fun i hi j k hk => (key i j).choose_spec hi k hk⟩⟩
end Go.RX
