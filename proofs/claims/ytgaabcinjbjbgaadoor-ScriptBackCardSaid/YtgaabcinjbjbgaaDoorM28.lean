/- Contracts of the library, laid at this program by the shelf (plain mode); kept are those that are used. · What the library's functions do is what the executor takes them to do. · Contracts of the library, laid at this program by the shelf (plain mode); kept are those that are used. -/
import Derived.Shelf.Strings.Builder1
import Derived.Shelf.Strings.Builder2
import Derived.Shelf.Strings.OnBuilder
import Derived.Shelf.Small.Strs
import Derived.Shelf.Strings.Search1
import Derived.Shelf.Strings.Count
import Derived.Test.YtgaabcinjbjbgaaDoorProg
import Derived.Test.YtgaabcinjbjbgaaDoorM27
import Derived.Test.YtgaabcinjbjbgaaDoorM26
import Derived.Test.YtgaabcinjbjbgaaDoorM25
import Derived.Shelf.Strconv.Itoa0
import Derived.Shelf.Strconv.Itoa1
import Derived.Shelf.LaysM
import Derived.Shelf.Strconv.Itoa2
import Derived.Shelf.Strconv.Itoa3
import Derived.Shelf.Strings.Search2
import Derived.Shelf.Strings.Search3
import Derived.Shelf.Strings.Cut
import Derived.Shelf.Strings.Split

namespace Go.Proofs
open Go.Shelf
def Tryd.lays169_ren : Go.Shelf.Ren := ⟨fun | 169 => 15 | n => n, fun | 70 => 45 | 9 => 9 | 0 => 0 | 72 => 47 | 37 => 34 | 127 => 68 | 3 => 3 | 5 => 5 | n => n, fun | n => n⟩
theorem Tryd.lays169 : Go.Proofs.Lays.n169 Tryd.prog Tryd.lays169_ren := {
  mixed := by kernel_rfl
  f169 := Tryd.func15.trans (congrArg some (by kernel_rfl))
  t0 := Tryd.underlying0
  a0 := Tryd.isAgg0
  z0 := Tryd.sizeOf0
  v0 := Tryd.zeroValue0
  t3 := Tryd.underlying3
  a3 := Tryd.isAgg3
  z3 := Tryd.sizeOf3
  v3 := Tryd.zeroValue3
  t9 := Tryd.underlying9
  a9 := Tryd.isAgg9
  z9 := Tryd.sizeOf9
  v9 := Tryd.zeroValue9
  t37 := Tryd.underlying34
  a37 := Tryd.isAgg34
  z37 := Tryd.sizeOf34
  v37 := Tryd.zeroValue34
  t70 := Tryd.underlying45
  a70 := Tryd.isAgg45
  z70 := Tryd.sizeOf45
  v70 := Tryd.zeroValue45
  t72 := Tryd.underlying47
  a72 := Tryd.isAgg47
  z72 := Tryd.sizeOf47
  v72 := Tryd.zeroValue47
  t127 := Tryd.underlying68
  a127 := Tryd.isAgg68
  z127 := Tryd.sizeOf68
  v127 := Tryd.zeroValue68 }
theorem Tryd.Builder_Extra_169 : Builder.Extra Tryd.prog Tryd.lays169_ren := {
  sizeBuilder := by kernel_rfl
  liesBuilder := by kernel_rfl
  t5 := Tryd.underlying5
  a5 := Tryd.isAgg5
  z5 := Tryd.sizeOf5
  v5 := Tryd.zeroValue5
  infoByte := by kernel_rfl
  cellsByte := by kernel_rfl
  sizeByte := by kernel_rfl
  neB5 := by decide }
def Tryd.lays156_ren : Go.Shelf.Ren := ⟨fun | 156 => 25 | 165 => 37 | 166 => 13 | 169 => 15 | 240 => 26 | 241 => 45 | 276 => 38 | 277 => 60 | n => n, fun | 31 => 62 | 9 => 9 | 3 => 3 | 4 => 4 | 0 => 0 | 20 => 20 | 72 => 47 | 76 => 52 | 70 => 45 | 37 => 34 | 75 => 51 | 127 => 68 | 164 => 83 | 5 => 5 | 80 => 55 | n => n, fun | n => n⟩
theorem Tryd.lays156 : Go.Proofs.Lays.n156 Tryd.prog Tryd.lays156_ren := {
  mixed := by kernel_rfl
  f156 := Tryd.func25.trans (congrArg some (by kernel_rfl))
  f165 := Tryd.func37.trans (congrArg some (by kernel_rfl))
  f166 := Tryd.func13.trans (congrArg some (by kernel_rfl))
  f169 := Tryd.func15.trans (congrArg some (by kernel_rfl))
  f240 := Tryd.func26.trans (congrArg some (by kernel_rfl))
  f241 := Tryd.func45.trans (congrArg some (by kernel_rfl))
  f276 := Tryd.func38.trans (congrArg some (by kernel_rfl))
  f277 := Tryd.func60.trans (congrArg some (by kernel_rfl))
  t0 := Tryd.underlying0
  a0 := Tryd.isAgg0
  z0 := Tryd.sizeOf0
  v0 := Tryd.zeroValue0
  t3 := Tryd.underlying3
  a3 := Tryd.isAgg3
  z3 := Tryd.sizeOf3
  v3 := Tryd.zeroValue3
  t4 := Tryd.underlying4
  a4 := Tryd.isAgg4
  z4 := Tryd.sizeOf4
  v4 := Tryd.zeroValue4
  t9 := Tryd.underlying9
  a9 := Tryd.isAgg9
  z9 := Tryd.sizeOf9
  v9 := Tryd.zeroValue9
  t20 := Tryd.underlying20
  a20 := Tryd.isAgg20
  z20 := Tryd.sizeOf20
  v20 := Tryd.zeroValue20
  t31 := Tryd.underlying62
  a31 := Tryd.isAgg62
  z31 := Tryd.sizeOf62
  v31 := Tryd.zeroValue62
  t37 := Tryd.underlying34
  a37 := Tryd.isAgg34
  z37 := Tryd.sizeOf34
  v37 := Tryd.zeroValue34
  t70 := Tryd.underlying45
  a70 := Tryd.isAgg45
  z70 := Tryd.sizeOf45
  v70 := Tryd.zeroValue45
  t72 := Tryd.underlying47
  a72 := Tryd.isAgg47
  z72 := Tryd.sizeOf47
  v72 := Tryd.zeroValue47
  t75 := Tryd.underlying51
  a75 := Tryd.isAgg51
  z75 := Tryd.sizeOf51
  v75 := Tryd.zeroValue51
  t76 := Tryd.underlying52
  a76 := Tryd.isAgg52
  z76 := Tryd.sizeOf52
  v76 := Tryd.zeroValue52
  t127 := Tryd.underlying68
  a127 := Tryd.isAgg68
  z127 := Tryd.sizeOf68
  v127 := Tryd.zeroValue68
  t164 := Tryd.underlying83
  a164 := Tryd.isAgg83
  z164 := Tryd.sizeOf83
  v164 := Tryd.zeroValue83 }
theorem Tryd.Builder_Extra_156 : Builder.Extra Tryd.prog Tryd.lays156_ren := {
  sizeBuilder := by kernel_rfl
  liesBuilder := by kernel_rfl
  t5 := Tryd.underlying5
  a5 := Tryd.isAgg5
  z5 := Tryd.sizeOf5
  v5 := Tryd.zeroValue5
  infoByte := by kernel_rfl
  cellsByte := by kernel_rfl
  sizeByte := by kernel_rfl
  neB5 := by decide }
open Go.RowKit in
theorem Tryd.strings_Join (bk o c : Nat) (xs : List ByteArray) (sep : ByteArray) (w : World) (hcells : ∀ (j : Nat) x, xs[j]? = some x → w.cell? ⟨bk, o + j, none⟩ = some (.string x)) (hbk : bk < w.heap.size) (hN : xs.length ≤ 140737488355328) (hcap : xs.length ≤ c) (hlen : (Lib.join (xs.map (·.data.toList)) sep.data.toList).length ≤ 140737488355328) :
    Calls Tryd.prog 25 #[.slice (some ⟨bk, o, none⟩) xs.length c, .string sep] w fun e w' => e = .returned (.string ⟨(Lib.join (xs.map (·.data.toList)) sep.data.toList).toArray⟩) ∧ Below w.heap.size w w' := Any.strings_Join Tryd.lays156 Tryd.Builder_Extra_156 bk o c xs sep w hcells hbk hN hcap hlen
def Tryd.lays217_ren : Go.Shelf.Ren := ⟨fun | 217 => 62 | 266 => 79 | n => n, fun | 9 => 9 | 5 => 5 | 3 => 3 | n => n, fun | n => n⟩
theorem Tryd.lays217 : Go.Proofs.Lays.n217 Tryd.prog Tryd.lays217_ren := {
  mixed := by kernel_rfl
  f217 := Tryd.func62.trans (congrArg some (by kernel_rfl))
  f266 := Tryd.func79.trans (congrArg some (by kernel_rfl))
  t3 := Tryd.underlying3
  a3 := Tryd.isAgg3
  z3 := Tryd.sizeOf3
  v3 := Tryd.zeroValue3
  t5 := Tryd.underlying5
  a5 := Tryd.isAgg5
  z5 := Tryd.sizeOf5
  v5 := Tryd.zeroValue5
  t9 := Tryd.underlying9
  a9 := Tryd.isAgg9
  z9 := Tryd.sizeOf9
  v9 := Tryd.zeroValue9 }
open Go.RowKit Go.Lib in
theorem Tryd.stringslite_IndexByte (s : ByteArray) (c : Int) (w : World) :
    Calls Tryd.prog 62 #[.string s, .int .u8 c] w fun e w' => e = .returned (.int .i64 (Lib.indexByte s.data.toList c.toNat.toUInt8)) ∧ w' = w := Any.stringslite_IndexByte Tryd.lays217 s c w
def Tryd.lays138_ren : Go.Shelf.Ren := ⟨fun | 138 => 55 | 195 => 72 | 218 => 73 | 143 => 48 | 219 => 49 | 217 => 62 | 225 => 63 | 224 => 64 | 267 => 65 | 266 => 79 | 314 => 80 | n => n, fun | 9 => 9 | 3 => 3 | 4 => 4 | 5 => 5 | 0 => 0 | 46 => 81 | 146 => 129 | 51 => 121 | n => n, fun | 1 => 0 | n => n⟩
theorem Tryd.lays138 : Go.Proofs.Lays.n138 Tryd.prog Tryd.lays138_ren := {
  mixed := by kernel_rfl
  f138 := Tryd.func55.trans (congrArg some (by kernel_rfl))
  f143 := Tryd.func48.trans (congrArg some (by kernel_rfl))
  f195 := Tryd.func72.trans (congrArg some (by kernel_rfl))
  f217 := Tryd.func62.trans (congrArg some (by kernel_rfl))
  f218 := Tryd.func73.trans (congrArg some (by kernel_rfl))
  f219 := Tryd.func49.trans (congrArg some (by kernel_rfl))
  f224 := Tryd.func64.trans (congrArg some (by kernel_rfl))
  f225 := Tryd.func63.trans (congrArg some (by kernel_rfl))
  f266 := Tryd.func79.trans (congrArg some (by kernel_rfl))
  f267 := Tryd.func65.trans (congrArg some (by kernel_rfl))
  f314 := Tryd.func80.trans (congrArg some (by kernel_rfl))
  t0 := Tryd.underlying0
  a0 := Tryd.isAgg0
  z0 := Tryd.sizeOf0
  v0 := Tryd.zeroValue0
  t3 := Tryd.underlying3
  a3 := Tryd.isAgg3
  z3 := Tryd.sizeOf3
  v3 := Tryd.zeroValue3
  t4 := Tryd.underlying4
  a4 := Tryd.isAgg4
  z4 := Tryd.sizeOf4
  v4 := Tryd.zeroValue4
  t5 := Tryd.underlying5
  a5 := Tryd.isAgg5
  z5 := Tryd.sizeOf5
  v5 := Tryd.zeroValue5
  t9 := Tryd.underlying9
  a9 := Tryd.isAgg9
  z9 := Tryd.sizeOf9
  v9 := Tryd.zeroValue9
  t46 := Tryd.underlying81
  a46 := Tryd.isAgg81
  z46 := Tryd.sizeOf81
  v46 := Tryd.zeroValue81
  t51 := Tryd.underlying121
  a51 := Tryd.isAgg121
  z51 := Tryd.sizeOf121
  v51 := Tryd.zeroValue121
  t146 := Tryd.underlying129
  a146 := Tryd.isAgg129
  z146 := Tryd.sizeOf129
  v146 := Tryd.zeroValue129
  g1 := by kernel_rfl }
open Go.RowKit Go.Lib in
theorem Tryd.strings_Count_one (s : ByteArray) (c : UInt8) (w : World) :
    Calls Tryd.prog 55 #[.string s, .string ⟨#[c]⟩] w fun e w' => e = .returned (.int .i64 (Lib.countByte s.data.toList c)) ∧ w' = w := Any.strings_Count_one Tryd.lays138 s c w
end Go.Proofs

namespace Go.RX.Au
open Go.Proofs Go.RowKit
section
variable {P : Program} {f : Nat} {args : List Value} {v : Value}
theorem meets_pure (h : ∀ w, Calls P f args.toArray w fun e w' => e = .returned v ∧ w' = w) : Meets P f args [] fun x hs => x = v ∧ hs = [] := by
  intro w Fs ho
  refine (h w).mono ?_
  rintro e w' ⟨rfl, rfl⟩
  exact ⟨v, [], rfl, ⟨rfl, rfl⟩, ho, Same.refl _⟩
theorem meets_below {pre : List HP} (h : ∀ w Fs, Owns (pre ++ Fs) w → Calls P f args.toArray w fun e w' => e = .returned v ∧ Below w.heap.size w w') : Meets P f args pre fun x hs => x = v ∧ hs = pre := by
  intro w Fs ho
  refine (h w Fs ho).mono ?_
  rintro e w' ⟨rfl, hb⟩
  obtain ⟨S, hS⟩ := ho
  obtain ⟨h1, h2, h3, h4, h5⟩ := hb
  exact ⟨v, pre, rfl, ⟨rfl, rfl⟩, ⟨S, hS.keep h4 fun k hk => h5 k hk⟩, ⟨h1, h2, h3, h4⟩⟩
theorem meets_one {h0 h1 : HP} (hw : h0.wr = true) (h : ∀ w S, h0.p w S → Calls P f args.toArray w fun e w' => e = .returned v ∧ ∃ S', h1.p w' S' ∧ Sb.Kept w w' S S') : Meets P f args [h0] fun x hs => x = v ∧ hs = [h1] := by
  intro w Fs ho
  obtain ⟨S, hS⟩ := ho
  refine (h w (S 0) (hS.at_ 0 h0 rfl).1).mono ?_
  rintro e w' ⟨rfl, S', hp, hk⟩
  exact ⟨v, [h1], rfl, ⟨rfl, rfl⟩, ⟨_, hS.step 0 h0 h1 rfl hw S' hk.same.size hk.old hp hk.sub⟩, hk.same⟩
theorem meets_drop {h0 : HP} (hw : h0.wr = true) (h : ∀ w S, h0.p w S → Calls P f args.toArray w fun e w' => e = .returned v ∧ Same w w' ∧ ∀ k, k < w.heap.size → ¬ S k → w'.heap[k]? = w.heap[k]?) : Meets P f args [h0] fun x hs => x = v ∧ hs = [] := by
  intro w Fs ho
  obtain ⟨S, hS⟩ := ho
  refine (h w (S 0) (hS.at_ 0 h0 rfl).1).mono ?_
  rintro e w' ⟨rfl, hsm, hk⟩
  have hs := hS.step 0 h0 HP.emp rfl hw (fun _ => False) hsm.size hk (fun _ h => h) (fun _ h => h.elim)
  have : Owns ([HP.emp] ++ Fs) w' := ⟨_, hs⟩
  exact ⟨v, [], rfl, ⟨rfl, rfl⟩, Owns.sub this (List.sublist_cons_self _ _), hsm⟩
end
theorem idx_spec (c : UInt8) : ∀ (l : List UInt8) (i : Nat), idxFrom c i l = if Lib.indexByte l c = -1 then -1 else (i : Int) + Lib.indexByte l c
  | [], i => rfl
  | b :: l, i => by
    have hg := Lib.indexByte_ge l c
    simp only [idxFrom, Lib.indexByte, idx_spec c l (i + 1)]
    by_cases hb : b == c
    · simp [hb]
    · by_cases hn : Lib.indexByte l c = -1
      · simp [hb, hn]
      · have h2 : ¬ Lib.indexByte l c + 1 = -1 := by omega
        simp [hb, hn, h2]
        omega
theorem idxB_spec (l : List UInt8) (c : UInt8) : idxB l c = Lib.indexByte l c := by
  have hg := Lib.indexByte_ge l c
  unfold idxB
  rw [idx_spec]
  split <;> omega
theorem joinL_spec (sep : List UInt8) : ∀ xs : List (List UInt8), joinL sep xs = Lib.join xs sep
  | [] => rfl
  | [x] => by simp [joinL, Lib.join, List.intercalate]
  | x :: y :: r => by
    have := joinL_spec sep (y :: r)
    simp only [joinL, this, Lib.join, List.intercalate, List.intersperse_cons_cons, List.flatten_cons, List.append_assoc]
theorem strsOf_cells (ρ : Env) : ∀ {cs : List SV} {xs : List (List UInt8)}, strsOf cs = some xs → SV.cellsL ρ cs = xs.map fun l => Value.string ⟨l.toArray⟩
  | [], xs, h => by simp [strsOf] at h; subst h; rfl
  | v :: r, xs, h => by
    cases v with
    | str l =>
      simp only [strsOf, Option.map_eq_some_iff] at h
      obtain ⟨ys, hy, rfl⟩ := h
      simp only [SV.cellsL, SV.cells, strsOf_cells ρ hy, List.map_cons, List.singleton_append]
    | _ => simp [strsOf] at h
theorem bytesL_cells (ρ : Env) {a : E} {n : Nat} {l : List UInt8} (h : bytesL a n = some l) : segCells .u8 n (a.den ρ) = Lib.byteCells l := by
  unfold bytesL at h
  split at h
  · rename_i zs hz
    split at h
    · rename_i hb
      cases h
      have := litsOf_den (ρ := ρ) hz
      subst this
      unfold segCells Lib.byteCells
      rw [List.map_map, List.map_map]
      refine List.map_congr_left fun j hj => ?_
      have := List.all_eq_true.1 hb (a.den ρ j) (List.mem_map.2 ⟨j, hj, rfl⟩)
      simp only [Bool.and_eq_true, decide_eq_true_eq] at this
      simp only [Function.comp]
      congr 1
      rw [UInt8.toNat_ofNat']
      omega
    · cases h
  · cases h
theorem byteVcs_cells (ρ : Env) {a : E} {k : Nat} (h : ∀ b ∈ byteVcs a k, b.prop ρ) : segCells .u8 k (a.den ρ) = Lib.byteCells ((List.range k).map fun j => UInt8.ofNat (a.den ρ j).toNat) := by
  unfold segCells Lib.byteCells
  rw [List.map_map]
  refine List.map_congr_left fun j hj => ?_
  have key : ∀ b ∈ [bLe (.lit 0) (eSel a (.lit j)), bLe (eSel a (.lit j)) (.lit 255)], b.prop ρ := by
    intro b hb
    refine filt_prop (l := (List.range k).flatMap fun (j : Nat) => [bLe (.lit 0) (eSel a (.lit (j : Int))), bLe (eSel a (.lit (j : Int))) (.lit 255)]) h b (List.mem_flatMap.2 ⟨j, hj, hb⟩)
  have q1 := of_decide_eq_true (bLe_den ρ _ _ ▸ (BE.den_iff ρ _).2 (key (bLe (.lit 0) (eSel a (.lit j))) (by simp)))
  have q2 := of_decide_eq_true (bLe_den ρ _ _ ▸ (BE.den_iff ρ _).2 (key (bLe (eSel a (.lit j)) (.lit 255)) (by simp)))
  simp only [den_lit, eSel_den, Int.toNat_natCast] at q1 q2
  simp only [Function.comp]
  congr 1
  rw [UInt8.toNat_ofNat']
  omega
theorem findBld_spec {hp : List Ck} {b j t e : Nat} {n a : E} (h : findBld hp b = some (j, t, e, n, a)) : hp[j]? = some (.bld b t e n a) := by
  unfold findBld at h
  split at h
  · rename_i i hi
    split at h
    · rename_i b' t' e' n' a' hj
      cases h
      obtain ⟨hlt, hq, _⟩ := List.findIdx?_eq_some_iff_getElem.1 hi
      obtain ⟨_, he⟩ := List.getElem?_eq_some_iff.1 hj
      rw [he] at hq
      have hb : b = b' := by simpa using hq
      rw [hj, hb]
    · cases h
  · cases h
noncomputable def cx0 : Ctx := { T := TT, FT := FT, pure := pure }
theorem upd_seg (ρ : Env) (n a c : E) (hn : 0 ≤ n.den ρ 0) : segCells .u8 ((eAdd n (.lit 1)).den ρ 0).toNat ((E.upd a n c).den ρ) = segCells .u8 (n.den ρ 0).toNat (a.den ρ) ++ [.int .u8 (c.den ρ 0)] := by
  rw [eAdd_den, den_lit, show (n.den ρ 0 + 1).toNat = (n.den ρ 0).toNat + 1 by omega]
  unfold segCells
  rw [List.range_succ, List.map_append, List.map_singleton]
  congr 1
  · refine List.map_congr_left fun j hj => ?_
    have := List.mem_range.1 hj
    rw [den_upd, if_neg (by omega)]
  · rw [den_upd, if_pos rfl]
theorem use_one {hp : List Ck} {j : Nat} {ck : Ck} (h : hp[j]? = some ck) : hp.getD j .emp = ck := by
  rw [List.getD_eq_getElem?_getD, h]; rfl
theorem pureOk0 (T : List TI) (FT : List (Nat × Func)) (J : Nat → Nat → Option JoinAnn) (G : Nat → Nat → Option (St → Option GhostStep)) : PureOk Tryd.prog { T := T, FT := FT, pure := pure, joins := J, ghosts := G } := by
  intro f args hp r ρ h hvc
  unfold pureRes at h
  simp only at h
  unfold pure at h
  split at h
  · rename_i g hg
    split at hg
    · -- IndexByte
      cases hg
      unfold pIndexByte at h
      split at h
      · rename_i l c
        cases h
        exact meets_pure fun w => by
          have := Tryd.stringslite_IndexByte ⟨l.toArray⟩ c w
          rw [SV.val, E.den, idxB_spec]
          exact this
      · cases h
    · -- Count
      cases hg
      unfold pCount at h
      split at h
      · rename_i l c
        cases h
        exact meets_pure fun w => Tryd.strings_Count_one ⟨l.toArray⟩ c w
      · cases h
    · -- WriteByte
      cases hg
      unfold pWriteByte at h
      split at h
      · rename_i b c
        split at h
        · rename_i j n a hf
          cases h
          have hj := findBld_spec hf
          have q1 := bLe'_prop fun c hc => hvc c (List.mem_append_left _ hc)
          have q2 := hvc _ (List.mem_append_right _ (List.mem_singleton.2 rfl))
          have q2 := of_decide_eq_true (bLe_den ρ _ _ ▸ (BE.den_iff ρ _).2 q2)
          rw [eAdd_den] at q2
          simp only [den_lit] at q1 q2
          simp only [List.map_cons, List.map_nil, use_one hj]
          refine meets_one rfl fun w S hS => ?_
          have := Sb.writeByte (ρ.bv.getD b 0) (segCells .u8 (n.den ρ 0).toNat (a.den ρ)) (c.den ρ 0) w S hS (by rw [segCells_length]; omega)
          simp only [Ck.den, upd_seg ρ n a c q1]
          exact this
        · cases h
      · cases h
    · -- String
      cases hg
      unfold pString at h
      split at h
      · rename_i b
        split at h
        · rename_i j k a hf
          split at h
          · rename_i x l hl
            cases h
            have hj := findBld_spec hf
            simp only [List.map_cons, List.map_nil, use_one hj]
            refine meets_drop rfl fun w S hS => ?_
            have hS : (bldHP (ρ.bv.getD b 0) 47 5 (Lib.byteCells (x :: l))).p w S := by
              have := bytesL_cells ρ hl
              rw [← this]
              exact hS
            exact Sb.string Tryd.lays169 Tryd.Builder_Extra_169 (ρ.bv.getD b 0) (x :: l) w S hS (by simp)
          · split at h
            · cases h
            · rename_i hk0
              cases h
              have hj := findBld_spec hf
              simp only [List.map_cons, List.map_nil, use_one hj]
              have hl := byteVcs_cells ρ hvc
              refine meets_drop rfl fun w S hS => ?_
              have hS : (bldHP (ρ.bv.getD b 0) 47 5 (Lib.byteCells ((List.range k).map fun j => UInt8.ofNat (a.den ρ j).toNat))).p w S := by
                rw [← hl]
                exact hS
              have := Sb.string Tryd.lays169 Tryd.Builder_Extra_169 (ρ.bv.getD b 0) _ w S hS (by simp; omega)
              rw [SV.val, eBytes_den, den_lit, Int.toNat_natCast]
              exact this
        · cases h
      · cases h
    · -- Join
      cases hg
      unfold pJoin at h
      split at h
      · rename_i b n m sep
        split at h
        · rename_i j b' wr cs hf
          split at h
          · rename_i xs hxs
            split at h
            · rename_i hc
              obtain ⟨rfl, hnm, hn1, hl⟩ := hc
              cases h
              obtain ⟨hj, hat⟩ := findAt_spec hf
              simp only [Ck.isAt, beq_iff_eq] at hat
              subst hat
              simp only [List.map_cons, List.map_nil, use_one hj]
              refine meets_below fun w Fs ho => ?_
              obtain ⟨S, hS⟩ := ho
              obtain ⟨⟨h1, ty, fz, h2, _⟩, hlt⟩ := hS.at_ 0 _ rfl
              have hb : ρ.bv.getD b 0 < w.heap.size := hlt _ ((h1 _).2 rfl)
              have hcells : ∀ (q : Nat) x, (xs.map fun l => (⟨l.toArray⟩ : ByteArray))[q]? = some x → w.cell? ⟨ρ.bv.getD b 0, 0 + q, none⟩ = some (.string x) := by
                intro q x hx
                rw [strsOf_cells ρ hxs] at h2
                simp only [World.cell?, h2, Nat.zero_add]
                rw [List.getElem?_map] at hx
                cases hq : xs[q]? with
                | none => rw [hq] at hx; cases hx
                | some y =>
                  rw [hq] at hx
                  cases hx
                  simp [hq]
              have he : ((xs.map fun l => (⟨l.toArray⟩ : ByteArray)).map (·.data.toList)) = xs := by
                rw [List.map_map]
                exact (List.map_congr_left fun _ _ => rfl).trans (List.map_id _)
              have := Tryd.strings_Join (ρ.bv.getD b 0) 0 m (xs.map fun l => ⟨l.toArray⟩) ⟨sep.toArray⟩ w hcells hb (by simp; omega) (by simpa using hnm) (by rw [he, ← joinL_spec]; exact Nat.le_trans hl (by decide))
              rw [he, ← joinL_spec, List.length_map] at this
              exact this
            · cases h
          · cases h
        · cases h
      · cases h
    · cases hg
  · cases h
end Go.RX.Au

namespace Go.Proofs
open Go.Shelf
def Tryd.lays137_ren : Go.Shelf.Ren := ⟨fun | 137 => 71 | 217 => 62 | 266 => 79 | n => n, fun | 9 => 9 | 5 => 5 | 3 => 3 | n => n, fun | n => n⟩
theorem Tryd.lays137 : Go.Proofs.Lays.n137 Tryd.prog Tryd.lays137_ren := {
  mixed := by kernel_rfl
  f137 := Tryd.func71.trans (congrArg some (by kernel_rfl))
  f217 := Tryd.func62.trans (congrArg some (by kernel_rfl))
  f266 := Tryd.func79.trans (congrArg some (by kernel_rfl))
  t3 := Tryd.underlying3
  a3 := Tryd.isAgg3
  z3 := Tryd.sizeOf3
  v3 := Tryd.zeroValue3
  t5 := Tryd.underlying5
  a5 := Tryd.isAgg5
  z5 := Tryd.sizeOf5
  v5 := Tryd.zeroValue5
  t9 := Tryd.underlying9
  a9 := Tryd.isAgg9
  z9 := Tryd.sizeOf9
  v9 := Tryd.zeroValue9 }
open Go.RowKit in
theorem Tryd.strings_IndexByte (s : ByteArray) (c : Int) (w : World) :
    Calls Tryd.prog 71 #[.string s, .int .u8 c] w fun e w' => e = .returned (.int .i64 (Lib.indexByte s.data.toList c.toNat.toUInt8)) ∧ w' = w := Any.strings_IndexByte Tryd.lays137 s c w
def Tryd.laysM171_ren : Go.Shelf.Ren := ⟨fun | 171 => 22 | 243 => 34 | 246 => 43 | 283 => 56 | 284 => 57 | 285 => 58 | 286 => 59 | 129 => 75 | 317 => 74 | 318 => 76 | 319 => 77 | 320 => 78 | 337 => 87 | 338 => 88 | n => n, fun | 3 => 3 | 9 => 9 | 2 => 2 | 4 => 4 | 171 => 104 | 0 => 0 | 53 => 33 | 37 => 34 | 5 => 5 | 173 => 107 | 212 => 120 | 51 => 121 | 20 => 20 | 213 => 122 | 46 => 81 | 232 => 143 | 233 => 144 | n => n, fun | 17 => 1 | 18 => 6 | 19 => 7 | n => n⟩
theorem Tryd.laysM171 : Go.Proofs.LaysM.n171 Tryd.prog Tryd.laysM171_ren := {
  mixed := by kernel_rfl
  f129 := Tryd.func75.trans (congrArg some (by kernel_rfl))
  f171 := Tryd.func22.trans (congrArg some (by kernel_rfl))
  f243 := Tryd.func34.trans (congrArg some (by kernel_rfl))
  f246 := Tryd.func43.trans (congrArg some (by kernel_rfl))
  f283 := Tryd.func56.trans (congrArg some (by kernel_rfl))
  f284 := Tryd.func57.trans (congrArg some (by kernel_rfl))
  f285 := Tryd.func58.trans (congrArg some (by kernel_rfl))
  f286 := Tryd.func59.trans (congrArg some (by kernel_rfl))
  f317 := Tryd.func74.trans (congrArg some (by kernel_rfl))
  f318 := Tryd.func76.trans (congrArg some (by kernel_rfl))
  f319 := Tryd.func77.trans (congrArg some (by kernel_rfl))
  f320 := Tryd.func78.trans (congrArg some (by kernel_rfl))
  f337 := Tryd.func87.trans (congrArg some (by kernel_rfl))
  f338 := Tryd.func88.trans (congrArg some (by kernel_rfl))
  t0 := Tryd.underlying0
  a0 := Tryd.isAgg0
  z0 := Tryd.sizeOf0
  v0 := Tryd.zeroValue0
  t2 := Tryd.underlying2
  a2 := Tryd.isAgg2
  z2 := Tryd.sizeOf2
  v2 := Tryd.zeroValue2
  t3 := Tryd.underlying3
  a3 := Tryd.isAgg3
  z3 := Tryd.sizeOf3
  v3 := Tryd.zeroValue3
  t4 := Tryd.underlying4
  a4 := Tryd.isAgg4
  z4 := Tryd.sizeOf4
  v4 := Tryd.zeroValue4
  t5 := Tryd.underlying5
  a5 := Tryd.isAgg5
  z5 := Tryd.sizeOf5
  v5 := Tryd.zeroValue5
  t9 := Tryd.underlying9
  a9 := Tryd.isAgg9
  z9 := Tryd.sizeOf9
  v9 := Tryd.zeroValue9
  t20 := Tryd.underlying20
  a20 := Tryd.isAgg20
  z20 := Tryd.sizeOf20
  v20 := Tryd.zeroValue20
  t37 := Tryd.underlying34
  a37 := Tryd.isAgg34
  z37 := Tryd.sizeOf34
  v37 := Tryd.zeroValue34
  t46 := Tryd.underlying81
  a46 := Tryd.isAgg81
  z46 := Tryd.sizeOf81
  v46 := Tryd.zeroValue81
  t51 := Tryd.underlying121
  a51 := Tryd.isAgg121
  z51 := Tryd.sizeOf121
  v51 := Tryd.zeroValue121
  t53 := Tryd.underlying33
  a53 := Tryd.isAgg33
  z53 := Tryd.sizeOf33
  v53 := Tryd.zeroValue33
  t171 := Tryd.underlying104
  a171 := Tryd.isAgg104
  z171 := Tryd.sizeOf104
  v171 := Tryd.zeroValue104
  t173 := Tryd.underlying107
  a173 := Tryd.isAgg107
  z173 := Tryd.sizeOf107
  v173 := Tryd.zeroValue107
  t212 := Tryd.underlying120
  a212 := Tryd.isAgg120
  z212 := Tryd.sizeOf120
  v212 := Tryd.zeroValue120
  t213 := Tryd.underlying122
  a213 := Tryd.isAgg122
  z213 := Tryd.sizeOf122
  t232 := Tryd.underlying143
  a232 := Tryd.isAgg143
  z232 := Tryd.sizeOf143
  v232 := Tryd.zeroValue143
  t233 := Tryd.underlying144
  a233 := Tryd.isAgg144
  z233 := Tryd.sizeOf144
  v233 := Tryd.zeroValue144
  g17 := by kernel_rfl
  g18 := by kernel_rfl
  g19 := by kernel_rfl
  i0 := by kernel_rfl
  i2 := by kernel_rfl
  i3 := by kernel_rfl
  i4 := by kernel_rfl
  i5 := by kernel_rfl
  i9 := by kernel_rfl
  i20 := by kernel_rfl
  i37 := by kernel_rfl
  i46 := by kernel_rfl
  i51 := by kernel_rfl
  i53 := by kernel_rfl
  i171 := by kernel_rfl
  i173 := by kernel_rfl
  i212 := by kernel_rfl
  i232 := by kernel_rfl
  i233 := by kernel_rfl
  m17 := by kernel_rfl
  m18 := by kernel_rfl
  m19 := by kernel_rfl }
open Go.RowKit Go.Sort Go.Lib in
theorem Tryd.strconv_Itoa (n : Int) (h0 : -9223372036854775808 ≤ n) (h1 : n ≤ 9223372036854775807) (w : World) (htab : Lib.TabIs Tryd.prog w "internal/strconv.uint64pow10" .u64 Lib.pow10Tab) :
    Calls Tryd.prog 22 #[.int .i64 n] w fun e w' => e = .returned (.string ⟨(Lib.itoa n).toArray⟩) ∧ ∃ k os, w' = grow (w.drewN k) os := Any.strconv_Itoa Tryd.laysM171 n h0 h1 w htab
def Tryd.lays145_ren : Go.Shelf.Ren := ⟨fun | 145 => 28 | 220 => 40 | 219 => 49 | 217 => 62 | 225 => 63 | 224 => 64 | 267 => 65 | 266 => 79 | 314 => 80 | n => n, fun | 9 => 9 | 4 => 4 | 59 => 60 | 3 => 3 | 5 => 5 | 46 => 81 | 146 => 129 | 51 => 121 | n => n, fun | 1 => 0 | n => n⟩
theorem Tryd.lays145 : Go.Proofs.Lays.n145 Tryd.prog Tryd.lays145_ren := {
  mixed := by kernel_rfl
  f145 := Tryd.func28.trans (congrArg some (by kernel_rfl))
  f217 := Tryd.func62.trans (congrArg some (by kernel_rfl))
  f219 := Tryd.func49.trans (congrArg some (by kernel_rfl))
  f220 := Tryd.func40.trans (congrArg some (by kernel_rfl))
  f224 := Tryd.func64.trans (congrArg some (by kernel_rfl))
  f225 := Tryd.func63.trans (congrArg some (by kernel_rfl))
  f266 := Tryd.func79.trans (congrArg some (by kernel_rfl))
  f267 := Tryd.func65.trans (congrArg some (by kernel_rfl))
  f314 := Tryd.func80.trans (congrArg some (by kernel_rfl))
  t3 := Tryd.underlying3
  a3 := Tryd.isAgg3
  z3 := Tryd.sizeOf3
  v3 := Tryd.zeroValue3
  t4 := Tryd.underlying4
  a4 := Tryd.isAgg4
  z4 := Tryd.sizeOf4
  v4 := Tryd.zeroValue4
  t5 := Tryd.underlying5
  a5 := Tryd.isAgg5
  z5 := Tryd.sizeOf5
  v5 := Tryd.zeroValue5
  t9 := Tryd.underlying9
  a9 := Tryd.isAgg9
  z9 := Tryd.sizeOf9
  v9 := Tryd.zeroValue9
  t46 := Tryd.underlying81
  a46 := Tryd.isAgg81
  z46 := Tryd.sizeOf81
  v46 := Tryd.zeroValue81
  t51 := Tryd.underlying121
  a51 := Tryd.isAgg121
  z51 := Tryd.sizeOf121
  v51 := Tryd.zeroValue121
  t59 := Tryd.underlying60
  a59 := Tryd.isAgg60
  z59 := Tryd.sizeOf60
  v59 := Tryd.zeroValue60
  t146 := Tryd.underlying129
  a146 := Tryd.isAgg129
  z146 := Tryd.sizeOf129
  v146 := Tryd.zeroValue129
  g1 := by kernel_rfl }
open Go.RowKit Go.Lib in
theorem Tryd.strings_Cut (s sep : ByteArray) (m : Int) (w : World) (hs : s.size < 4294967281) (hm : w.cell? ⟨0, 0, none⟩ = some (.int .i64 m)) :
    Calls Tryd.prog 28 #[.string s, .string sep] w fun e w' => e = .returned (.tuple #[.string ⟨(Lib.cut s.data.toList sep.data.toList).1.toArray⟩, .string ⟨(Lib.cut s.data.toList sep.data.toList).2.1.toArray⟩, .bool (Lib.cut s.data.toList sep.data.toList).2.2]) ∧ ∃ n, w' = w.drewN n := Any.strings_Cut Tryd.lays145 s sep m w hs hm
end Go.Proofs
