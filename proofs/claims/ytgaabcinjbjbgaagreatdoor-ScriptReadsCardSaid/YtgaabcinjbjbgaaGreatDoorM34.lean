/- AuditLines: what FormatUint, ParseUint and number leave to be shown; printed by a program of ours (wip/tools). · AuditLines: a word's number. · strings.Builder az one predicate with an exact frame: WriteByte, String; over any program that bears these functions (the walks after the shelf's own, its laid facts used). · strings.Builder of this program: copyCheck, WriteByte. · Where the ways of 'known' meet again: for the executor. · What the library's functions do is what the executor takes them to do. · AuditLines: what the library's functions answer, where the package's variables are laid. -/
import Derived.Test.YtgaabcinjbjbgaaGreatDoorM33
import Derived.Test.YtgaabcinjbjbgaaGreatDoorM27
import Derived.Test.YtgaabcinjbjbgaaGreatDoorM28
import Derived.Test.YtgaabcinjbjbgaaGreatDoorM31
import Derived.Lib.ParseIntBCases
import Derived.Shelf.Strings.Builder1
import Derived.Maps.AppendAt
import Derived.Test.YtgaabcinjbjbgaaGreatDoorM32

namespace Go.RX.Lf
open Go.RX Go.Proofs
noncomputable def cxF : Ctx := { T := TT, FT := FT, calls := callsF }
noncomputable def cxN : Ctx := { T := TT, FT := FT, calls := callsN }
set_option maxRecDepth 100000
noncomputable def fm_fmt : F := runF cxF 71 ([SV.int (Go.IntKind.u64) (E.var 0), SV.int (Go.IntKind.i64) (E.lit 10)]) ([Ck.abs 0]) ({ b := 0, v := 0, i := 1, a := 0, bo := 0, p := 1, r := 0 }) Tryz.f71
def st_fmt (P : Program) (Post : Value → List HP → Prop) (x0 : Int) (p0 : HP) : Prop :=
 Fork (x0 < 100) (
 Need ((-9223372036854775808) ≤ x0) (
 Need (x0 ≤ 9223372036854775807) (
 ∃ post, Meets P 119 [.int .i64 x0] [] post ∧
 ∀ x hs, post x hs → ∃ A0 : (Nat → Int), x = .string ⟨(strD A0).toArray⟩ ∧ hs = [] ∧
 Post (.string ⟨(strD A0).toArray⟩) []))) (
 ∀ b0 : Nat, ∃ post, Meets P 120 [.int .u64 x0] [p0] post ∧
 ∀ x hs, post x hs → ∃ x1 : Int, x = .int .i64 x1 ∧ hs = [p0] ∧
 Need (0 ≤ x1) (
 Need (x1 ≤ 24) (
 ∃ post, Meets P 121 [.slice (some ⟨b0, 0, none⟩) (Int.toNat x1) 24, .int .u64 x0] [rowHP b0 true (List.append (segCells .u8 24 (fun _ => 0)) ([]))] post ∧
 ∀ x hs, post x hs → ∃ A0 : (Nat → Int), x = .tuple #[] ∧ hs = [rowHP b0 true (List.append (segCells .u8 24 A0) ([]))] ∧
 Post (.string ⟨(strD (bytF A0 x1)).toArray⟩) [])))
theorem vc_fmt (P : Program) (Post : Value → List HP → Prop) (x0 : Int) (p0 : HP) (L : Nat → LC) : VC P (fun v _ => Post v []) fm_fmt { iv := [x0], av := [], bo := [], bv := [], vv := [], pv := [p0] } L = st_fmt P Post x0 p0 := by kernel_rfl
theorem run_fmt : runF cxF 71 ([SV.int (Go.IntKind.u64) (E.var 0), SV.int (Go.IntKind.i64) (E.lit 10)]) ([Ck.abs 0]) ({ b := 0, v := 0, i := 1, a := 0, bo := 0, p := 1, r := 0 }) Tryz.f71 = fm_fmt := rfl
end Go.RX.Lf

namespace Go.RX.Lp
open Go Go.RX Go.Proofs Go.RX.Ln
theorem parse_dec (M : Nat) (hM : M < 18446744073709551620) : ∀ u : Nat, u ≤ M → ∀ r, Lib.parseUintM M 0 (Lib.decDigits u ++ r) = Lib.parseUintM M u r := by
  intro u
  induction u using Nat.strongRecOn with
  | _ u ih =>
    intro hu r
    rw [Lib.decDigits]
    by_cases h : u < 10
    · rw [dif_pos h]
      have e : (UInt8.ofNat (48 + u)).toNat = 48 + u := by rw [UInt8.toNat_ofNat']; omega
      rw [List.singleton_append, Lib.parseUintM, e, if_pos (by omega), if_neg (by omega), if_neg (by omega)]
      congr 1
      omega
    · rw [dif_neg h, List.append_assoc, ih (u / 10) (by omega) (by omega)]
      have e : (UInt8.ofNat (48 + u % 10)).toNat = 48 + u % 10 := by rw [UInt8.toNat_ofNat']; omega
      rw [List.singleton_append, Lib.parseUintM, e, if_pos (by omega), if_neg (by omega), if_neg (by omega)]
      congr 1
      omega
theorem dec_ne (u : Nat) : Lib.decDigits u ≠ [] := by
  intro h
  have := (dec_len u).1
  rw [h] at this
  exact absurd this (by decide)
theorem parseB_dec (B u : Nat) (hB : 2 ^ B - 1 < 18446744073709551620) (hu : u ≤ 2 ^ B - 1) : Lib.parseUintB B (Lib.decDigits u) = .ok u := by
  have := parse_dec (2 ^ B - 1) hB u hu []
  rw [List.append_nil] at this
  rw [Lib.parseUintB, if_neg (dec_ne u), this]
  rfl
/-- What a word's number is; false: it is none's. -/
def numP (B : Nat) (l : List UInt8) : Nat × Bool :=
  match Lib.parseUintB B l with
  | .ok u => (u, l == Lib.decDigits u)
  | .range => (2 ^ B - 1, false)
  | _ => (0, false)
theorem numP_dec (B u : Nat) (hB : 2 ^ B - 1 < 18446744073709551620) (hu : u ≤ 2 ^ B - 1) : numP B (Lib.decDigits u) = (u, true) := by
  rw [numP, parseB_dec B u hB hu]
  simp
end Go.RX.Lp

namespace Go.RX.Sb
open Go.Shelf Go.RowKit Go.Proofs
variable {P : Program} {ρ : Ren}
theorem wpList_append_row {w : World} {ops : Array Oper} {rest : List Oper} {o : Oper} {a : Act} {Q : Exit → Act → World → Prop} (hgd : o.guard = none) (s x : Operand) (t : TypeId)
    (ho : o.op = .call { callee := .builtin .append, args := #[s, x], argTypes := #[t, t] })
    (e : TypeId) (i : TypeInfo) (z : Value) (size bytes : Nat) (ht : P.underlying t = some (.slice e)) (hi : P.info? e = some i) (hz : i.zero = some z)
    (hsize : i.size = size) (hby : i.bytes = bytes) (hzs : z.cells.size = size) (hsz : 0 < size)
    (v : Value) (n : Nat) (xs : List Value) (hs : a.eval s = v) (hown : w.ownsRow 0 e size v n xs)
    (ad : Addr) (m c : Nat) (news : List Value) (hx : a.eval x = .slice (some ad) m c) (hl : news.length = m * size) (hnews : ∀ j u, news[j]? = some u → w.cell? (ad.add j) = some u) (h1 : ∀ u ∈ news, u.oneCell' = true)
    (h63 : n + m ≤ maxLen) (hbytes : (n + m) * bytes ≤ 140737488355328)
    (h : ∀ v' w', w'.ownsRow 0 e size v' (n + m) (xs ++ news) → w.grownBy w' v.ownBlock → (v'.ownBlock = v.ownBlock ∨ v'.ownBlock = some w.heap.size) → wpList P ops Q rest (a.put o.dst v') w') : wpList P ops Q (o :: rest) a w := by
  refine wpList_plain hgd fun K hK => ?_
  obtain ⟨v', w', hr, h2, h3, _, h5⟩ := run_append_own_at (P := P) w 0 t o.type e i z size bytes ht hi hz hsize hby hzs hsz v n xs hown ad m c news hl hnews h1 h63 hbytes (Nat.zero_le _)
  unfold Oper.wp execOp
  simp only [ho, resolve, invoke, builtin, Sem.run_bind, Sem.run_pure, Result.andThen_ok, List.map_toArray, List.map_cons, List.map_nil, hs, hx, hr]
  exact hK _ _ (h v' w' h2 h3 h5)
/-- What a call does to a builder and to nothing else. -/
structure Kept (w w' : World) (S S' : Nat → Prop) : Prop where
  same : Same w w'
  old : ∀ k, k < w.heap.size → ¬ S k → w'.heap[k]? = w.heap[k]?
  sub : ∀ k, S' k → S k ∨ (w.heap.size ≤ k ∧ k < w'.heap.size)
theorem setCell_same (w : World) (p : Addr) (v : Value) : Same w (w.setCell p v) := ⟨rfl, rfl, rfl, by simp [World.setCell]⟩
theorem setCell_size (w : World) (p : Addr) (v : Value) : (w.setCell p v).heap.size = w.heap.size := by simp [World.setCell]
theorem freeze_other (w : World) (a : Addr) (n : Nat) (k : Nat) (hk : k ≠ a.block) : (w.freeze a n).heap[k]? = w.heap[k]? := by
  unfold World.freeze
  split
  · rfl
  · simp [Array.getElem?_modify, Ne.symm hk]
theorem freeze_same (w : World) (a : Addr) (n : Nat) : Same w (w.freeze a n) := by
  unfold World.freeze
  split
  · exact Same.refl _
  · exact ⟨rfl, rfl, rfl, by simp⟩
theorem drew_same (w : World) : Same w w.drew := ⟨rfl, rfl, rfl, Nat.le_refl _⟩
set_option maxHeartbeats 1000000 in
set_option maxRecDepth 100000 in
theorem string (L : Lays.n169 P ρ) (X : Builder.Extra P ρ) (b : Nat) (l : List UInt8) (w : World) (S : Nat → Prop) (h : (bldHP b (ρ.t 72) (ρ.t 5) (Lib.byteCells l)).p w S) (h0 : l ≠ []) :
    Calls P (ρ.f 169) #[.pointer (some ⟨b, 0, none⟩)] w fun e w' => e = .returned (.string ⟨l.toArray⟩) ∧ Same w w' ∧ ∀ k, k < w.heap.size → ¬ S k → w'.heap[k]? = w.heap[k]? := by
  obtain ⟨p, v, hbk, _, hown, hne, hS⟩ := h
  have hl0 : l.length ≠ 0 := by simpa using h0
  rw [Lib.byteCells_length] at hown
  obtain ⟨g, cap, cur, rfl, hbg, hg, hnc, hcm, hcs, htake⟩ : ∃ g cap cur, v = .slice (some ⟨g, 0, none⟩) l.length cap ∧ 0 ≤ g ∧ w.heap[g]? = some (.cells cur (ρ.t 5) (0, 0)) ∧ l.length ≤ cap ∧ cap ≤ maxLen ∧ cur.size = cap * 1 ∧ cur.toList.take (l.length * 1) = Lib.byteCells l := by
    rcases hown.2 with ⟨_, hz⟩ | ⟨g, cap, cur, hv, r⟩
    · exact absurd hz hl0
    · exact ⟨g, cap, cur, hv, r⟩
  have c1 : w.drew.cell? ⟨b, 1, none⟩ = some (.slice (some ⟨g, 0, none⟩) l.length cap) := by
    have : w.drew.heap[b]? = some (.cells #[p, .slice (some ⟨g, 0, none⟩) l.length cap] (ρ.t 72) (0, 0)) := hbk
    rw [Lib.cell_of_heap this]; rfl
  have hSD : (Builtin.unsafeSliceData_ #[(ρ.t 37)] (ρ.t 127) #[.slice (some ⟨g, 0, none⟩) l.length cap]).run P w.drew = .ok (.pointer (some ⟨g, 0, none⟩)) w.drew :=
    Lib.run_unsafeSliceData_row _ _ _ _ _ _ (by omega)
  have hUS : (Builtin.unsafeString_ #[(ρ.t 127), (ρ.t 3)] (ρ.t 9) #[.pointer (some ⟨g, 0, none⟩), .int .i64 l.length]).run P w.drew = .ok (.string ⟨l.toArray⟩) (w.drew.freeze ⟨g, 0, none⟩ l.length) := by
    refine Lib.run_unsafeString_row w.drew (ρ.t 127) (ρ.t 3) (ρ.t 9) (ρ.t 5) L.t127 X.cellsByte g cur.size (by have hg' : w.drew.heap[g]? = some (.cells cur (ρ.t 5) (0, 0)) := hg; simp [World.shape?, hg']) l h0 (by omega) (by unfold maxLen at hcm; omega) ?_
    intro j x hx
    have := hown.cells (g := g) rfl j (.int .u8 x.toNat) (by simp [Lib.byteCells, hx])
    exact this
  have mixed := L.mixed
  have t72 := L.t72; have a72 := L.a72; have z72 := L.z72; have v72 := L.v72; have u72 := run_underlying L.t72
  have t70 := L.t70; have a70 := L.a70; have z70 := L.z70; have v70 := L.v70; have u70 := run_underlying L.t70
  have t37 := L.t37; have a37 := L.a37; have z37 := L.z37; have v37 := L.v37; have u37 := run_underlying L.t37
  have t127 := L.t127; have a127 := L.a127; have z127 := L.z127; have v127 := L.v127; have u127 := run_underlying L.t127
  have t3 := L.t3; have a3 := L.a3; have z3 := L.z3; have v3 := L.v3; have u3 := run_underlying L.t3
  have t9 := L.t9; have a9 := L.a9; have z9 := L.z9; have v9 := L.v9; have u9 := run_underlying L.t9
  have t5 := X.t5; have a5 := X.a5; have z5 := X.z5; have v5 := X.v5; have u5 := run_underlying X.t5
  have fin : Same w (w.drew.freeze ⟨g, 0, none⟩ l.length) ∧ ∀ k, k < w.heap.size → ¬ S k → (w.drew.freeze ⟨g, 0, none⟩ l.length).heap[k]? = w.heap[k]? :=
    ⟨(drew_same w).trans (freeze_same _ _ _), fun k _ hk => (freeze_other _ _ _ k (fun e => hk ((hS k).2 (.inr (by rw [e]; rfl))))).trans rfl⟩
  go_enter L.f169, Body.n169_ntmps ρ
  go_wp2
  go_region_o
  all_goals (go_wp2; go_ret; exact ⟨rfl, fin⟩)
end Go.RX.Sb

namespace Go.RX.Sb
open Go.Shelf Go.RowKit Go.Proofs
theorem info93 : (Tryz.prog.info? 93).map (·.size) = some 2 := by kernel_rfl
theorem lies93 : liesAt Tryz.prog Tryz.prog.depth 93 (2 / Tryz.prog.cellsOf 93) 0 93 1 = true := by kernel_rfl
theorem infoByte : (Tryz.prog.info? 5).map (fun i => (i.zero, i.size, i.bytes)) = some (some (.int .u8 0), 1, 1) := by kernel_rfl
set_option maxHeartbeats 1000000 in
set_option maxRecDepth 100000 in
theorem copyCheck_used (b : Nat) (w : World) (h0 : w.cell? ⟨b, 0, none⟩ = some (.pointer (some ⟨b, 0, none⟩))) :
    Calls Tryz.prog 73 #[.pointer (some ⟨b, 0, none⟩)] w fun e w' => e = .returned (.tuple #[]) ∧ w' = w := by
  obtain ⟨j, hj, _⟩ := Option.map_eq_some_iff.1 info93
  go_enter Tryz.func73, Tryz.ntmps73
  go_wp2
  rw [Lib.run_neq_ptr_same w _ Tryz.underlying91 hj]
  go_wp2
  go_end0
  exact ⟨rfl, rfl⟩
set_option maxHeartbeats 1000000 in
set_option maxRecDepth 100000 in
theorem copyCheck_fresh (b : Nat) (w : World) (h0 : w.cell? ⟨b, 0, none⟩ = some (.pointer none)) (hsh : w.shape? b = some (93, 2)) (hfz : w.frozen? ⟨b, 0, none⟩ = false) :
    Calls Tryz.prog 73 #[.pointer (some ⟨b, 0, none⟩)] w fun e w' => e = .returned (.tuple #[]) ∧ w' = w.setCell ⟨b, 0, none⟩ (.pointer (some ⟨b, 0, none⟩)) := by
  obtain ⟨j, hj, hjs⟩ := Option.map_eq_some_iff.1 info93
  go_enter Tryz.func73, Tryz.ntmps73
  go_wp2
  rw [Lib.run_to_unsafe w ⟨b, 0, none⟩ Tryz.underlying91 Tryz.underlying173 hj (by rw [hjs]; decide) hsh (Nat.zero_lt_succ 1)]
  simp only [Result.andThen]
  rw [Oper.upon_value]
  go_wp2
  rw [run_callFunc_extern Tryz.func95 (by kernel_rfl) (by kernel_rfl) (by kernel_rfl) (e := Extern.AbiNoEscape.same) (by kernel_rfl)]
  rw [Lib.run_noEscape]
  simp only [Result.andThen]
  rw [Oper.upon_value]
  go_wp2
  rw [Lib.run_from_unsafe w ⟨b, 0, none⟩ Tryz.underlying173 Tryz.underlying91 hj hsh lies93]
  simp only [Result.andThen]
  rw [Oper.upon_value]
  go_wp2
  go_end0
  exact ⟨rfl, rfl⟩
set_option maxHeartbeats 2000000 in
set_option maxRecDepth 100000 in
theorem writeByte (b : Nat) (bs : List Value) (c : Int) (w : World) (S : Nat → Prop) (h : (bldHP b 93 5 bs).p w S) (hlen : bs.length + 1 ≤ 140737488355328) :
    Calls Tryz.prog 53 #[.pointer (some ⟨b, 0, none⟩), .int .u8 c] w fun e w' => e = .returned .nilIface ∧ ∃ S', (bldHP b 93 5 (bs ++ [.int .u8 c])).p w' S' ∧ Kept w w' S S' := by
  obtain ⟨pv, v, hb0, hpv, hown0, hne, hS⟩ := h
  have hlt0 : b < w.heap.size := by
    rcases Nat.lt_or_ge b w.heap.size with h' | h'
    · exact h'
    · simp [Array.getElem?_eq_none h'] at hb0
  obtain ⟨i0, hi, hz0, hz1, hz2⟩ := info_parts infoByte
  have hcc : Calls Tryz.prog 73 #[.pointer (some ⟨b, 0, none⟩)] w fun e w1 => e = .returned (.tuple #[]) ∧ (w1.heap[b]? = some (.cells #[.pointer (some ⟨b, 0, none⟩), v] 93 (0, 0)) ∧ Same w w1 ∧ w1.heap.size ≤ w.heap.size ∧ ∀ k, k ≠ b → w1.heap[k]? = w.heap[k]?) := by
    rcases hpv with rfl | rfl
    · refine (copyCheck_fresh b w (by rw [Lib.cell_of_heap hb0]; rfl) (by simp [World.shape?, hb0]) (by simp [World.frozen?, hb0])).mono ?_
      rintro e w1 ⟨rfl, rfl⟩
      exact ⟨rfl, by simp [World.setCell, Array.getElem?_modify, hb0], setCell_same _ _ _, Nat.le_of_eq (setCell_size _ _ _), fun k hk => Below.heap_setCell _ _ _ _ (fun e => hk (by simp [e]))⟩
    · refine (copyCheck_used b w (by rw [Lib.cell_of_heap hb0]; rfl)).mono ?_
      rintro e w1 ⟨rfl, rfl⟩
      exact ⟨rfl, hb0, Same.refl _, Nat.le_refl _, fun _ _ => rfl⟩
  go_enter Tryz.func53, Tryz.ntmps53
  go_wp2_with (go_at_call 73; refine hcc.mono ?_)
  rintro e w1 ⟨rfl, hbk, hsm1, hsz1, hk1⟩
  have hsz2 := hsm1.size
  have hown : w1.ownsRow 0 5 1 v bs.length bs := by
    refine ⟨hown0.1, ?_⟩
    rcases hown0.2 with hn | ⟨g, cap, cur, rfl, hB, hg, r⟩
    · exact .inl hn
    · exact .inr ⟨g, cap, cur, rfl, hB, (hk1 g (fun e => hne (by simp [Value.ownBlock, e]))).trans hg, r⟩
  have c0 : w1.cell? ⟨b, 0, none⟩ = some (.pointer (some ⟨b, 0, none⟩)) := by rw [Lib.cell_of_heap hbk]; rfl
  have c1 : w1.cell? ⟨b, 1, none⟩ = some v := by rw [Lib.cell_of_heap hbk]; rfl
  go_wp2_with (at_builtin; go_loud (refine wpList_append_row rfl _ _ 37 rfl 5 i0 (.int .u8 0) 1 1 Tryz.underlying37 hi hz0 hz1 hz2 rfl (by decide) _ _ _ rfl (hown.alloc _) ⟨w1.heap.size, 0, none⟩ 1 1 [.int .u8 c] rfl rfl ?c1 ?c2 ?c3 ?c4 ?_))
  case c1 =>
    intro j u hj
    match j, hj with
    | 0, hj => simp at hj; subst hj; simp [Addr.add]
  case c2 => intro u hu; simp at hu; subst hu; rfl
  case c3 => unfold maxLen; omega
  case c4 => omega
  intro v' w2 hown' hgrow hblk
  have hlt : b < w1.heap.size := by omega
  have hb2 : w2.heap[b]? = some (.cells #[.pointer (some ⟨b, 0, none⟩), v] 93 (0, 0)) := by
    rw [hgrow.block b (by simp; omega) (fun e => hne e.symm), Lib.alloc_old w1 _ b hlt]
    exact hbk
  have d0 : w2.cell? ⟨b, 0, none⟩ = some (.pointer (some ⟨b, 0, none⟩)) := by rw [Lib.cell_of_heap hb2]; rfl
  have d1 : w2.cell? ⟨b, 1, none⟩ = some v := by rw [Lib.cell_of_heap hb2]; rfl
  have f1 : w2.frozen? ⟨b, 1, none⟩ = false := Lib.frozen_of_heap hb2 1
  obtain ⟨g, cap, rfl⟩ : ∃ g cap, v' = .slice (some ⟨g, 0, none⟩) (bs.length + 1) cap := by
    rcases hown'.2 with ⟨_, h0⟩ | ⟨g, cap, cur, hv, _⟩
    · omega
    · exact ⟨g, cap, hv⟩
  go_wp2
  go_ret
  have hgs : w.heap.size ≤ w2.heap.size := by have := hgrow.size; simp at this; omega
  have hput := Lib.BuilderAt.put (T := 93) (e := 5) (Nat.zero_le b) hb2 (bs' := bs ++ [.int .u8 c]) (by simpa using hown') (by decide)
  obtain ⟨_, v2, q1, q2, q3⟩ := hput
  have hv2 : v2 = .slice (some ⟨g, 0, none⟩) (bs.length + 1) cap := by
    have : (w2.setCell ⟨b, 1, none⟩ (.slice (some ⟨g, 0, none⟩) (bs.length + 1) cap)).heap[b]? = some (.cells #[.pointer (some ⟨b, 0, none⟩), .slice (some ⟨g, 0, none⟩) (bs.length + 1) cap] 93 (0, 0)) := by
      simp [World.setCell, Array.getElem?_modify, hb2]
    rw [this] at q1
    simp at q1
    exact q1.symm
  subst hv2
  refine ⟨rfl, fun k => k = b ∨ some g = some k, ⟨_, _, q1, .inr rfl, q2, q3, fun k => by simp [Value.ownBlock]⟩, ⟨?_, ?_, ?_⟩⟩
  · exact ⟨hgrow.os.trans hsm1.os, hgrow.tape.trans hsm1.tape, hgrow.output.trans hsm1.output, by rw [setCell_size]; exact hgs⟩
  · intro k hk hnS
    have hnS := mt (hS k).2 hnS
    rw [Below.heap_setCell _ _ _ _ (fun e => hnS (.inl e)), hgrow.block k (by simp; omega) (fun e => hnS (.inr e.symm)), Lib.alloc_old w1 _ k (by omega), hk1 k (fun e => hnS (.inl e))]
  · intro k hk
    rcases hk with rfl | hk
    · exact .inl ((hS _).2 (.inl rfl))
    · cases hk
      rcases hblk with hb' | hb'
      · exact .inl ((hS _).2 (.inr (by rw [← hb']; rfl)))
      · right
        simp only [Value.ownBlock, Option.some.injEq] at hb'
        try simp at hb'
        rw [setCell_size]
        refine ⟨by omega, ?_⟩
        rcases hown'.2 with ⟨hc, _⟩ | ⟨g', cap', cur, hv', _, hg, _⟩
        · cases hc
        · cases hv'
          rcases Nat.lt_or_ge g w2.heap.size with h' | h'
          · exact h'
          · simp [Array.getElem?_eq_none h'] at hg
end Go.RX.Sb

namespace Go.RX.Au
/-- The chunks that these slots lead to. -/
def slotIdx (st : St) (s : Nat) : List Nat :=
  match look st.fr s with
  | some (.ptr b _) => match findAt st.hp b with | some (j, _) => [j] | none => []
  | some (.vv v) => match findOwn st.hp v with | some (j, _) => [j] | none => []
  | _ => []
def keepSlots (ss : List Nat) (st : St) : Option GhostStep := some { pick := some (ss.flatMap (slotIdx st)) }
/-- As a ghost step behind a region: once. -/
def keepOnce (ss : List Nat) (st : St) : Option GhostStep := keepSlots ss st
def finding (v : Nat) (k a d e : Int) (id : List Int) : Ck :=
  .sli true v 62 20 (.lit 1) [⟨.int .u8, 1, .rowl [k]⟩, ⟨.int .i64, 1, .rowl [a]⟩, ⟨.int .u8, 1, .rowl [d]⟩, ⟨.int .u8, 1, .rowl [e]⟩, ⟨.int .u8, 16, .rowl id⟩]
def joins (f id : Nat) : Option JoinAnn :=
  match f, id with
  | 21, 100008 => some { inc := { v := 1 }, slots := fun c => [(7, .vv c.v)], hp := fun c h => h ++ [finding c.v 1 0 1 0 [7]], gh := keepSlots [3, 4, 5, 6, 7] }
  | 21, 100009 => some { inc := { v := 1 }, slots := fun c => [(8, .vv c.v)], hp := fun c h => h ++ [finding c.v 7 1 0 0 []], gh := keepSlots [3, 4, 5, 6, 7, 8] }
  | 21, 100010 => some { inc := { v := 1 }, slots := fun c => [(9, .vv c.v)], hp := fun c h => h ++ [finding c.v 3 0 0 0 [7]], gh := keepSlots [3, 4, 5, 6, 7, 8, 9] }
  | 21, 100011 => some { slots := fun _ => [(10, .nils)], hp := fun _ h => h, gh := keepSlots [3, 4, 5, 6, 7, 8, 9] }
  | _, _ => none
def ghosts (f id : Nat) : Option (St → Option GhostStep) :=
  match f, id with
  | 21, 7 => some (keepOnce [3, 4, 5, 6])
  | _, _ => none
end Go.RX.Au

namespace Go.RX.Au
open Go.Proofs Go.RowKit
section
variable {P : Program} {f : Nat} {args : List Value} {v : Value}
theorem meets_pure (h : ∀ w, Calls P f args.toArray w fun e w' => e = .returned v ∧ w' = w) : Meets P f args [] fun x hs => x = v ∧ hs = [] := by
  intro w Fs ho
  refine (h w).mono ?_
  rintro e w' ⟨rfl, rfl⟩
  exact ⟨v, [], rfl, ⟨rfl, rfl⟩, ho, Same.refl _⟩
theorem meets_below {pre : List HP} (h : ∀ w Fs, Owns (pre ++ Fs) w → Calls P f args.toArray w fun e w' => e = .returned v ∧ Below w.heap.size w w') : Meets P f args pre fun x hs => x = v ∧ hs = pre := by
  intro w Fs ho
  refine (h w Fs ho).mono ?_
  rintro e w' ⟨rfl, hb⟩
  obtain ⟨S, hS⟩ := ho
  obtain ⟨h1, h2, h3, h4, h5⟩ := hb
  exact ⟨v, pre, rfl, ⟨rfl, rfl⟩, ⟨S, hS.keep h4 fun k hk => h5 k hk⟩, ⟨h1, h2, h3, h4⟩⟩
theorem meets_one {h0 h1 : HP} (hw : h0.wr = true) (h : ∀ w S, h0.p w S → Calls P f args.toArray w fun e w' => e = .returned v ∧ ∃ S', h1.p w' S' ∧ Sb.Kept w w' S S') : Meets P f args [h0] fun x hs => x = v ∧ hs = [h1] := by
  intro w Fs ho
  obtain ⟨S, hS⟩ := ho
  refine (h w (S 0) (hS.at_ 0 h0 rfl).1).mono ?_
  rintro e w' ⟨rfl, S', hp, hk⟩
  exact ⟨v, [h1], rfl, ⟨rfl, rfl⟩, ⟨_, hS.step 0 h0 h1 rfl hw S' hk.same.size hk.old hp hk.sub⟩, hk.same⟩
theorem meets_drop {h0 : HP} (hw : h0.wr = true) (h : ∀ w S, h0.p w S → Calls P f args.toArray w fun e w' => e = .returned v ∧ Same w w' ∧ ∀ k, k < w.heap.size → ¬ S k → w'.heap[k]? = w.heap[k]?) : Meets P f args [h0] fun x hs => x = v ∧ hs = [] := by
  intro w Fs ho
  obtain ⟨S, hS⟩ := ho
  refine (h w (S 0) (hS.at_ 0 h0 rfl).1).mono ?_
  rintro e w' ⟨rfl, hsm, hk⟩
  have hs := hS.step 0 h0 HP.emp rfl hw (fun _ => False) hsm.size hk (fun _ h => h) (fun _ h => h.elim)
  have : Owns ([HP.emp] ++ Fs) w' := ⟨_, hs⟩
  exact ⟨v, [], rfl, ⟨rfl, rfl⟩, Owns.sub this (List.sublist_cons_self _ _), hsm⟩
end
theorem idx_spec (c : UInt8) : ∀ (l : List UInt8) (i : Nat), idxFrom c i l = if Lib.indexByte l c = -1 then -1 else (i : Int) + Lib.indexByte l c
  | [], i => rfl
  | b :: l, i => by
    have hg := Lib.indexByte_ge l c
    simp only [idxFrom, Lib.indexByte, idx_spec c l (i + 1)]
    by_cases hb : b == c
    · simp [hb]
    · by_cases hn : Lib.indexByte l c = -1
      · simp [hb, hn]
      · have h2 : ¬ Lib.indexByte l c + 1 = -1 := by omega
        simp [hb, hn, h2]
        omega
theorem idxB_spec (l : List UInt8) (c : UInt8) : idxB l c = Lib.indexByte l c := by
  have hg := Lib.indexByte_ge l c
  unfold idxB
  rw [idx_spec]
  split <;> omega
theorem joinL_spec (sep : List UInt8) : ∀ xs : List (List UInt8), joinL sep xs = Lib.join xs sep
  | [] => rfl
  | [x] => by simp [joinL, Lib.join, List.intercalate]
  | x :: y :: r => by
    have := joinL_spec sep (y :: r)
    simp only [joinL, this, Lib.join, List.intercalate, List.intersperse_cons_cons, List.flatten_cons, List.append_assoc]
theorem strsOf_cells (ρ : Env) : ∀ {cs : List SV} {xs : List (List UInt8)}, strsOf cs = some xs → SV.cellsL ρ cs = xs.map fun l => Value.string ⟨l.toArray⟩
  | [], xs, h => by simp [strsOf] at h; subst h; rfl
  | v :: r, xs, h => by
    cases v with
    | str l =>
      simp only [strsOf, Option.map_eq_some_iff] at h
      obtain ⟨ys, hy, rfl⟩ := h
      simp only [SV.cellsL, SV.cells, strsOf_cells ρ hy, List.map_cons, List.singleton_append]
    | _ => simp [strsOf] at h
theorem bytesL_cells (ρ : Env) {a : E} {n : Nat} {l : List UInt8} (h : bytesL a n = some l) : segCells .u8 n (a.den ρ) = Lib.byteCells l := by
  unfold bytesL at h
  split at h
  · rename_i zs hz
    split at h
    · rename_i hb
      cases h
      have := litsOf_den (ρ := ρ) hz
      subst this
      unfold segCells Lib.byteCells
      rw [List.map_map, List.map_map]
      refine List.map_congr_left fun j hj => ?_
      have := List.all_eq_true.1 hb (a.den ρ j) (List.mem_map.2 ⟨j, hj, rfl⟩)
      simp only [Bool.and_eq_true, decide_eq_true_eq] at this
      simp only [Function.comp]
      congr 1
      rw [UInt8.toNat_ofNat']
      omega
    · cases h
  · cases h
theorem byteVcs_cells (ρ : Env) {a : E} {k : Nat} (h : ∀ b ∈ byteVcs a k, b.prop ρ) : segCells .u8 k (a.den ρ) = Lib.byteCells ((List.range k).map fun j => UInt8.ofNat (a.den ρ j).toNat) := by
  unfold segCells Lib.byteCells
  rw [List.map_map]
  refine List.map_congr_left fun j hj => ?_
  have key : ∀ b ∈ [bLe (.lit 0) (eSel a (.lit j)), bLe (eSel a (.lit j)) (.lit 255)], b.prop ρ := by
    intro b hb
    refine filt_prop (l := (List.range k).flatMap fun (j : Nat) => [bLe (.lit 0) (eSel a (.lit (j : Int))), bLe (eSel a (.lit (j : Int))) (.lit 255)]) h b (List.mem_flatMap.2 ⟨j, hj, hb⟩)
  have q1 := of_decide_eq_true (bLe_den ρ _ _ ▸ (BE.den_iff ρ _).2 (key (bLe (.lit 0) (eSel a (.lit j))) (by simp)))
  have q2 := of_decide_eq_true (bLe_den ρ _ _ ▸ (BE.den_iff ρ _).2 (key (bLe (eSel a (.lit j)) (.lit 255)) (by simp)))
  simp only [den_lit, eSel_den, Int.toNat_natCast] at q1 q2
  simp only [Function.comp]
  congr 1
  rw [UInt8.toNat_ofNat']
  omega
theorem findBld_spec {hp : List Ck} {b j t e : Nat} {n a : E} (h : findBld hp b = some (j, t, e, n, a)) : hp[j]? = some (.bld b t e n a) := by
  unfold findBld at h
  split at h
  · rename_i i hi
    split at h
    · rename_i b' t' e' n' a' hj
      cases h
      obtain ⟨hlt, hq, _⟩ := List.findIdx?_eq_some_iff_getElem.1 hi
      obtain ⟨_, he⟩ := List.getElem?_eq_some_iff.1 hj
      rw [he] at hq
      have hb : b = b' := by simpa using hq
      rw [hj, hb]
    · cases h
  · cases h
theorem upd_seg (ρ : Env) (n a c : E) (hn : 0 ≤ n.den ρ 0) : segCells .u8 ((eAdd n (.lit 1)).den ρ 0).toNat ((E.upd a n c).den ρ) = segCells .u8 (n.den ρ 0).toNat (a.den ρ) ++ [.int .u8 (c.den ρ 0)] := by
  rw [eAdd_den, den_lit, show (n.den ρ 0 + 1).toNat = (n.den ρ 0).toNat + 1 by omega]
  unfold segCells
  rw [List.range_succ, List.map_append, List.map_singleton]
  congr 1
  · refine List.map_congr_left fun j hj => ?_
    have := List.mem_range.1 hj
    rw [den_upd, if_neg (by omega)]
  · rw [den_upd, if_pos rfl]
theorem use_one {hp : List Ck} {j : Nat} {ck : Ck} (h : hp[j]? = some ck) : hp.getD j .emp = ck := by
  rw [List.getD_eq_getElem?_getD, h]; rfl
theorem pureOk0 (T : List TI) (FT : List (Nat × Func)) (J : Nat → Nat → Option JoinAnn) (G : Nat → Nat → Option (St → Option GhostStep)) : PureOk Tryz.prog { T := T, FT := FT, pure := pure, joins := J, ghosts := G } := by
  intro f args hp r ρ h hvc
  unfold pureRes at h
  simp only at h
  unfold pure at h
  split at h
  · rename_i g hg
    split at hg
    · -- IndexByte
      cases hg
      unfold pIndexByte at h
      split at h
      · rename_i l c
        cases h
        exact meets_pure fun w => by
          have := Tryz.stringslite_IndexByte ⟨l.toArray⟩ c w
          rw [SV.val, E.den, idxB_spec]
          exact this
      · cases h
    · -- Count
      cases hg
      unfold pCount at h
      split at h
      · rename_i l c
        cases h
        exact meets_pure fun w => Tryz.strings_Count_one ⟨l.toArray⟩ c w
      · cases h
    · -- WriteByte
      cases hg
      unfold pWriteByte at h
      split at h
      · rename_i b c
        split at h
        · rename_i j n a hf
          cases h
          have hj := findBld_spec hf
          have q1 := bLe'_prop fun c hc => hvc c (List.mem_append_left _ hc)
          have q2 := hvc _ (List.mem_append_right _ (List.mem_singleton.2 rfl))
          have q2 := of_decide_eq_true (bLe_den ρ _ _ ▸ (BE.den_iff ρ _).2 q2)
          rw [eAdd_den] at q2
          simp only [den_lit] at q1 q2
          simp only [List.map_cons, List.map_nil, use_one hj]
          refine meets_one rfl fun w S hS => ?_
          have := Sb.writeByte (ρ.bv.getD b 0) (segCells .u8 (n.den ρ 0).toNat (a.den ρ)) (c.den ρ 0) w S hS (by rw [segCells_length]; omega)
          simp only [Ck.den, upd_seg ρ n a c q1]
          exact this
        · cases h
      · cases h
    · -- String
      cases hg
      unfold pString at h
      split at h
      · rename_i b
        split at h
        · rename_i j k a hf
          split at h
          · rename_i x l hl
            cases h
            have hj := findBld_spec hf
            simp only [List.map_cons, List.map_nil, use_one hj]
            refine meets_drop rfl fun w S hS => ?_
            have hS : (bldHP (ρ.bv.getD b 0) 93 5 (Lib.byteCells (x :: l))).p w S := by
              have := bytesL_cells ρ hl
              rw [← this]
              exact hS
            exact Sb.string Tryz.lays169 Tryz.Builder_Extra_169 (ρ.bv.getD b 0) (x :: l) w S hS (by simp)
          · split at h
            · cases h
            · rename_i hk0
              cases h
              have hj := findBld_spec hf
              simp only [List.map_cons, List.map_nil, use_one hj]
              have hl := byteVcs_cells ρ hvc
              refine meets_drop rfl fun w S hS => ?_
              have hS : (bldHP (ρ.bv.getD b 0) 93 5 (Lib.byteCells ((List.range k).map fun j => UInt8.ofNat (a.den ρ j).toNat))).p w S := by
                rw [← hl]
                exact hS
              have := Sb.string Tryz.lays169 Tryz.Builder_Extra_169 (ρ.bv.getD b 0) _ w S hS (by simp; omega)
              rw [SV.val, eBytes_den, den_lit, Int.toNat_natCast]
              exact this
        · cases h
      · cases h
    · -- Join
      cases hg
      unfold pJoin at h
      split at h
      · rename_i b n m sep
        split at h
        · rename_i j b' wr cs hf
          split at h
          · rename_i xs hxs
            split at h
            · rename_i hc
              obtain ⟨rfl, hnm, hn1, hl⟩ := hc
              cases h
              obtain ⟨hj, hat⟩ := findAt_spec hf
              simp only [Ck.isAt, beq_iff_eq] at hat
              subst hat
              simp only [List.map_cons, List.map_nil, use_one hj]
              refine meets_below fun w Fs ho => ?_
              obtain ⟨S, hS⟩ := ho
              obtain ⟨⟨h1, ty, fz, h2, _⟩, hlt⟩ := hS.at_ 0 _ rfl
              have hb : ρ.bv.getD b 0 < w.heap.size := hlt _ ((h1 _).2 rfl)
              have hcells : ∀ (q : Nat) x, (xs.map fun l => (⟨l.toArray⟩ : ByteArray))[q]? = some x → w.cell? ⟨ρ.bv.getD b 0, 0 + q, none⟩ = some (.string x) := by
                intro q x hx
                rw [strsOf_cells ρ hxs] at h2
                simp only [World.cell?, h2, Nat.zero_add]
                rw [List.getElem?_map] at hx
                cases hq : xs[q]? with
                | none => rw [hq] at hx; cases hx
                | some y =>
                  rw [hq] at hx
                  cases hx
                  simp [hq]
              have he : ((xs.map fun l => (⟨l.toArray⟩ : ByteArray)).map (·.data.toList)) = xs := by
                rw [List.map_map]
                exact (List.map_congr_left fun _ _ => rfl).trans (List.map_id _)
              have := Tryz.strings_Join (ρ.bv.getD b 0) 0 m (xs.map fun l => ⟨l.toArray⟩) ⟨sep.toArray⟩ w hcells hb (by simp; omega) (by simpa using hnm) (by rw [he, ← joinL_spec]; exact Nat.le_trans hl (by decide))
              rw [he, ← joinL_spec, List.length_map] at this
              exact this
            · cases h
          · cases h
        · cases h
      · cases h
    · cases hg
  · cases h
end Go.RX.Au

namespace Go.RX.Ln
open Go.RX Go.Proofs Go.RowKit
/-- The package's variables are az they are laid, below n0. -/
structure Laid0 (w0 : World) (n0 : Nat) : Prop where
  n : 8 ≤ n0
  max : ∃ m, w0.cell? ⟨0, 0, none⟩ = some (.int .i64 m)
  tab : Lib.TabIs Tryz.prog w0 "internal/strconv.uint64pow10" .u64 Lib.pow10Tab
  syn : ∃ te pe, w0.cell? ⟨2, 0, none⟩ = some (.iface te pe)
  rng : ∃ te pe, w0.cell? ⟨3, 0, none⟩ = some (.iface te pe)
theorem cell_same {w w0 : World} {b o : Nat} (h : w.heap[b]? = w0.heap[b]?) : w.cell? ⟨b, o, none⟩ = w0.cell? ⟨b, o, none⟩ := by
  simp only [World.cell?, h]
theorem pow10_at : Tryz.prog.globalNamed "internal/strconv.uint64pow10" = some 1 := by kernel_rfl
theorem Laid0.keep {w0 w : World} {n0 : Nat} (h : Laid0 w0 n0) (hk : ∀ k, k < n0 → w.heap[k]? = w0.heap[k]?) : Laid0 w n0 := by
  have hn := h.n
  refine ⟨hn, ?_, ?_, ?_, ?_⟩
  · rw [cell_same (hk 0 (by omega))]; exact h.max
  · have ht := h.tab
    unfold Lib.TabIs World.var? at ht ⊢
    rw [pow10_at] at ht ⊢
    simp only [Option.bind_some] at ht ⊢
    rw [hk 1 (by omega)]
    exact ht
  · rw [cell_same (hk 2 (by omega))]; exact h.syn
  · rw [cell_same (hk 3 (by omega))]; exact h.rng
theorem meets_kept {P : Program} {f : Nat} {args : List Value} {v : Value} {w0 : World} {n0 : Nat} (h : ∀ w, (∀ k, k < n0 → w.heap[k]? = w0.heap[k]?) → Calls P f args.toArray w fun e w' => e = .returned v ∧ Below w.heap.size w w') :
    Meets P f args [keptHP n0 w0] fun x hs => x = v ∧ hs = [keptHP n0 w0] :=
  Au.meets_below fun w Fs ho => by
    obtain ⟨S, hS⟩ := ho
    exact h w (hS.at_ 0 (keptHP n0 w0) rfl).1.2
theorem below_drewN {B : Nat} {a w : World} (h : Below B a w) (n : Nat) : Below B a (w.drewN n) := ⟨h.os, h.tape, h.output, h.size, h.block⟩
theorem below_grow (w : World) (os : Array Obj) : Below w.heap.size w (Sort.grow w os) := by
  refine ⟨rfl, rfl, rfl, by simp [Sort.grow], fun k hk => ?_⟩
  simp only [Sort.grow]
  rw [Array.getElem?_append_left hk]
variable {w0 : World} {n0 : Nat}
theorem itoa_meets (hL : Laid0 w0 n0) (n : Int) (h0 : -9223372036854775808 ≤ n) (h1 : n ≤ 9223372036854775807) : Meets Tryz.prog 35 [.int .i64 n] [keptHP n0 w0] fun x hs => x = strV (Lib.itoa n) ∧ hs = [keptHP n0 w0] :=
  meets_kept fun w hk => (Tryz.strconv_Itoa n h0 h1 w (hL.keep hk).tab).mono fun e w' ⟨he, k, os, hw⟩ => ⟨he, by
    subst hw
    exact (below_drewN (Below.refl _ w) k).trans (show Below w.heap.size (w.drewN k) _ from below_grow (w.drewN k) os)⟩
theorem cut_meets (hL : Laid0 w0 n0) (s sep : List UInt8) (hs : s.length < 4294967281) : Meets Tryz.prog 56 [strV s, strV sep] [keptHP n0 w0] fun x hs => x = .tuple #[strV (Lib.cut s sep).1, strV (Lib.cut s sep).2.1, .bool (Lib.cut s sep).2.2] ∧ hs = [keptHP n0 w0] :=
  meets_kept fun w hk => by
    obtain ⟨m, hm⟩ := (hL.keep hk).max
    exact (Tryz.strings_Cut ⟨s.toArray⟩ ⟨sep.toArray⟩ m w hs hm).mono fun e w' ⟨he, k, hw⟩ => ⟨he, by subst hw; exact below_drewN (Below.refl _ w) k⟩
theorem indexByte_meets (s : List UInt8) (c : Int) : Meets Tryz.prog 58 [strV s, .int .u8 c] [] fun x hs => x = .int .i64 (Lib.indexByte s c.toNat.toUInt8) ∧ hs = [] :=
  Au.meets_pure fun w => Tryz.strings_IndexByte ⟨s.toArray⟩ c w
end Go.RX.Ln
