/- What the executor is told of the library's reader of numbers. · AuditLines: what the library's reader of numbers leaves to be shown; printed by a program of ours (wip/tools). · What the executor is told of the calls of the program's reader of numbers. · AuditLines: what FormatUint, ParseUint and number leave to be shown; printed by a program of ours (wip/tools). · AuditLines: a word's number. · AuditLines: the program's reader of numbers. · AuditLines: the document's line of a finding. · Printing of moves: bytes and numbers, of both sides. -/
import Derived.Test.YtgaabcinjbjbgaaDoorM25
import Derived.Test.YtgaabcinjbjbgaaDoorM26
import Derived.Test.YtgaabcinjbjbgaaDoorM29
import Derived.Lib.ParseIntBCases
import Derived.Test.YtgaabcinjbjbgaaDoorM30
import Derived.Lib.ParseIntBMem
import Derived.Test.YtgaabcinjbjbgaaDoorM27
import Derived.Test.YtgaabcinjbjbgaaDoorScOk

namespace Go.RX.Lu
open Go.RX
def loops (f id : Nat) : Option LoopAnn :=
  match f, id with
  | 86, 3 => some { inc := { i := 2 }, slots := fun c => [(101, .int .i64 (.var c.i)), (13, .int .u64 (.var (c.i + 1))), (12, .bool (.lit false))] }
  | _, _ => none
end Go.RX.Lu

namespace Go.RX.Lu
open Go.RX Go.Proofs
noncomputable def TE : List TI := ⟨231, .int .i64, 1, 8, [.int .i64 (.lit 0)], []⟩ :: TT
noncomputable def cx : Ctx := { T := TE, FT := FT, loops := loops }
set_option maxRecDepth 100000
end Go.RX.Lu

namespace Go.RX.Lf
open Go.RX Go.RX.Lp
def smallCall : CallAnn := { use := fun _ _ => [], inc := { a := 1 }, val := fun c => .strE (.avar c.a), new := fun _ h => h }
def numCall : CallAnn := { use := fun _ hp => absIdx hp, inc := { i := 1 }, val := fun c => .int .i64 (.var c.i), new := fun _ h => h }
def fmtCall : CallAnn := { use := fun az hp => rowIdx az hp, inc := { a := 1 }, val := fun _ => .tup [], new := fun c h => match h with | [.row b w _] => [.row b w [.seg .u8 24 (.avar c.a)]] | h => h }
def parseCall : CallAnn := { use := fun _ hp => absIdx hp, inc := { i := 1, bo := 1, v := 1 }, val := fun c => .tup [.int .u64 (.var c.i), .ifv (.var c.bo) c.v], new := fun _ h => h }
def callsF (f d : Nat) : Option CallAnn :=
  match f, d with
  | 44, 15 => some smallCall
  | 44, 17 => some numCall
  | 44, 21 => some fmtCall
  | _, _ => none
end Go.RX.Lf

namespace Go.RX.Lf
open Go.RX Go.Proofs
noncomputable def cxF : Ctx := { T := TT, FT := FT, calls := callsF }
set_option maxRecDepth 100000
noncomputable def fm_fmt : F := runF cxF 35 ([SV.int (Go.IntKind.u64) (E.var 0), SV.int (Go.IntKind.i64) (E.lit 10)]) ([Ck.abs 0]) ({ b := 0, v := 0, i := 1, a := 0, bo := 0, p := 1, r := 0 }) Tryd.f35
def st_fmt (P : Program) (Post : Value → List HP → Prop) (x0 : Int) (p0 : HP) : Prop :=
 Fork (x0 < 100) (
 Need ((-9223372036854775808) ≤ x0) (
 Need (x0 ≤ 9223372036854775807) (
 ∃ post, Meets P 56 [.int .i64 x0] [] post ∧
 ∀ x hs, post x hs → ∃ A0 : (Nat → Int), x = .string ⟨(strD A0).toArray⟩ ∧ hs = [] ∧
 Post (.string ⟨(strD A0).toArray⟩) []))) (
 ∀ b0 : Nat, ∃ post, Meets P 57 [.int .u64 x0] [p0] post ∧
 ∀ x hs, post x hs → ∃ x1 : Int, x = .int .i64 x1 ∧ hs = [p0] ∧
 Need (0 ≤ x1) (
 Need (x1 ≤ 24) (
 ∃ post, Meets P 58 [.slice (some ⟨b0, 0, none⟩) (Int.toNat x1) 24, .int .u64 x0] [rowHP b0 true (List.append (segCells .u8 24 (fun _ => 0)) ([]))] post ∧
 ∀ x hs, post x hs → ∃ A0 : (Nat → Int), x = .tuple #[] ∧ hs = [rowHP b0 true (List.append (segCells .u8 24 A0) ([]))] ∧
 Post (.string ⟨(strD (bytF A0 x1)).toArray⟩) [])))
theorem vc_fmt (P : Program) (Post : Value → List HP → Prop) (x0 : Int) (p0 : HP) (L : Nat → LC) : VC P (fun v _ => Post v []) fm_fmt { iv := [x0], av := [], bo := [], bv := [], vv := [], pv := [p0] } L = st_fmt P Post x0 p0 := by kernel_rfl
theorem run_fmt : runF cxF 35 ([SV.int (Go.IntKind.u64) (E.var 0), SV.int (Go.IntKind.i64) (E.lit 10)]) ([Ck.abs 0]) ({ b := 0, v := 0, i := 1, a := 0, bo := 0, p := 1, r := 0 }) Tryd.f35 = fm_fmt := rfl
end Go.RX.Lf

namespace Go.RX.Lp
open Go Go.RX Go.Proofs Go.RX.Ln
theorem parse_dec (M : Nat) (hM : M < 18446744073709551620) : ∀ u : Nat, u ≤ M → ∀ r, Lib.parseUintM M 0 (Lib.decDigits u ++ r) = Lib.parseUintM M u r := by
  intro u
  induction u using Nat.strongRecOn with
  | _ u ih =>
    intro hu r
    rw [Lib.decDigits]
    by_cases h : u < 10
    · rw [dif_pos h]
      have e : (UInt8.ofNat (48 + u)).toNat = 48 + u := by rw [UInt8.toNat_ofNat']; omega
      rw [List.singleton_append, Lib.parseUintM, e, if_pos (by omega), if_neg (by omega), if_neg (by omega)]
      congr 1
      omega
    · rw [dif_neg h, List.append_assoc, ih (u / 10) (by omega) (by omega)]
      have e : (UInt8.ofNat (48 + u % 10)).toNat = 48 + u % 10 := by rw [UInt8.toNat_ofNat']; omega
      rw [List.singleton_append, Lib.parseUintM, e, if_pos (by omega), if_neg (by omega), if_neg (by omega)]
      congr 1
      omega
theorem dec_ne (u : Nat) : Lib.decDigits u ≠ [] := by
  intro h
  have := (dec_len u).1
  rw [h] at this
  exact absurd this (by decide)
theorem parseB_dec (B u : Nat) (hB : 2 ^ B - 1 < 18446744073709551620) (hu : u ≤ 2 ^ B - 1) : Lib.parseUintB B (Lib.decDigits u) = .ok u := by
  have := parse_dec (2 ^ B - 1) hB u hu []
  rw [List.append_nil] at this
  rw [Lib.parseUintB, if_neg (dec_ne u), this]
  rfl
def numP (B : Nat) (l : List UInt8) : Nat × Bool :=
  match Lib.parseUintB B l with
  | .ok u => (u, l == Lib.decDigits u)
  | .range => (2 ^ B - 1, false)
  | _ => (0, false)
theorem numP_dec (B u : Nat) (hB : 2 ^ B - 1 < 18446744073709551620) (hu : u ≤ 2 ^ B - 1) : numP B (Lib.decDigits u) = (u, true) := by
  rw [numP, parseB_dec B u hB hu]
  simp
end Go.RX.Lp

namespace Go.RX.Lf
open Go Go.RX Go.Proofs Go.RX.Ln Go.RX.Lp Go.RowKit
variable {w0 : World} {n0 : Nat}
theorem small_meets (i : Nat) (h : i < 100) : Meets Tryd.prog 56 [.int .i64 i] [] fun x hs => x = strV (Lib.decDigits i) ∧ hs = [] := Au.meets_pure fun w => Tryd.internal_strconv_small i h w
theorem nd_meets (hL : Laid0 w0 n0) (u : Nat) (h1 : 1 ≤ u) (h2 : u < 18446744073709551616) : Meets Tryd.prog 57 [.int .u64 u] [keptHP n0 w0] fun x hs => x = .int .i64 (Lib.nDigits u) ∧ hs = [keptHP n0 w0] :=
  meets_kept fun w hk => (Tryd.internal_strconv_numDigits u h1 h2 w (hL.keep hk).tab).mono fun e w' ⟨he, hw⟩ => ⟨he, by subst hw; exact Below.refl _ _⟩
theorem put_seg (n : Nat) (dk : Array UInt8) (hd : dk.size = n) : Sort.putCells (fun (b : UInt8) => Value.int .u8 (b.toNat : Int)) 0 dk (segCells .u8 24 (fun _ => 0)).toArray = (segCells .u8 24 (fun j => if j < n then (dk[j]!.toNat : Int) else 0)).toArray := by
  apply Array.ext_getElem?
  intro k
  simp only [Sort.putCells, Array.getElem?_mapIdx, List.getElem?_toArray, segCells_getElem?]
  by_cases hk : k < 24
  · rw [if_pos hk, if_pos hk, Option.map_some]
    by_cases hn : k < n
    · rw [if_pos ⟨Nat.zero_le _, by omega⟩, if_pos hn, Nat.sub_zero]
    · rw [if_neg (by omega), if_neg hn]
  · rw [if_neg hk, if_neg hk]
    rfl
theorem fb_meets (b u : Nat) (h64 : u < 18446744073709551616) (hn : Lib.nDigits u ≤ 20) : Meets Tryd.prog 58 [.slice (some ⟨b, 0, none⟩) (Lib.nDigits u) 24, .int .u64 u] [rowHP b true (segCells .u8 24 (fun _ => 0))]
    fun x hs => x = .tuple #[] ∧ ∃ A : Nat → Int, ((List.range (Lib.nDigits u)).map fun j => UInt8.ofNat (A j).toNat) = Lib.decDigits u ∧ hs = [rowHP b true (segCells .u8 24 A)] := by
  intro w Fs ho
  obtain ⟨S, hS⟩ := ho
  obtain ⟨⟨h1, ty, fz, h2, h3⟩, hlt⟩ := hS.at_ 0 (rowHP b true (segCells .u8 24 (fun _ => 0))) rfl
  obtain rfl := h3 rfl
  have hH : Sort.Holds (fun (b : UInt8) => Value.int .u8 (b.toNat : Int)) w b 0 (Array.replicate (Lib.nDigits u) 0) := by
    intro j hj
    rw [Array.size_replicate] at hj
    constructor
    · simp only [World.cell?, h2, List.getElem?_toArray, segCells_getElem?, Nat.zero_add]
      rw [if_pos (show j < 24 by omega)]
      simp [hj]
    · simp [World.frozen?, h2]
  have hf := Tryd.internal_strconv_formatBase10 b 0 24 u (Array.replicate (Lib.nDigits u) 0) w hH (by rw [Array.size_replicate]; exact Lib.lt_pow_nDigits u) h64 (by rw [Array.size_replicate]; omega)
  rw [Array.size_replicate] at hf
  refine hf.mono ?_
  rintro e w' ⟨rfl, k, v', dk, rfl, hF⟩
  have hsz := hF.size
  have hdig : ((List.range (Lib.nDigits u)).map fun j => UInt8.ofNat ((fun j => if j < Lib.nDigits u then (dk[j]!.toNat : Int) else 0) j).toNat) = Lib.decDigits u := by
    apply List.ext_getElem
    · simp [Lib.decDigits_length]
    · intro j hj1 hj2
      rw [Lib.row_is_numeral hF j hj2]
      have : j < Lib.nDigits u := by rw [Lib.decDigits_length] at hj2; exact hj2
      simp [this]
  have hheap : ∀ q, ((Sort.putRow (fun (b : UInt8) => Value.int .u8 (b.toNat : Int)) w b 0 dk).drewN k).heap[q]? = if b = q then some (.cells (segCells .u8 24 (fun j => if j < Lib.nDigits u then (dk[j]!.toNat : Int) else 0)).toArray ty (0, 0)) else w.heap[q]? := by
    intro q
    show (w.heap.modify b (Sort.onCells (Sort.putCells (fun (b : UInt8) => Value.int .u8 (b.toNat : Int)) 0 dk)))[q]? = _
    rw [Array.getElem?_modify]
    by_cases hq : b = q
    · subst hq
      rw [if_pos rfl, if_pos rfl, h2, Option.map_some]
      simp only [Sort.onCells]
      rw [put_seg (Lib.nDigits u) dk hsz]
    · rw [if_neg hq, if_neg hq]
  have hsize : ((Sort.putRow (fun (b : UInt8) => Value.int .u8 (b.toNat : Int)) w b 0 dk).drewN k).heap.size = w.heap.size := Array.size_modify
  refine ⟨_, _, rfl, ⟨rfl, _, hdig, rfl⟩, ⟨_, hS.step 0 (rowHP b true (segCells .u8 24 (fun _ => 0))) (rowHP b true (segCells .u8 24 (fun j => if j < Lib.nDigits u then (dk[j]!.toNat : Int) else 0))) rfl rfl (fun k => k = b) (Nat.le_of_eq hsize.symm) ?_ ?_ ?_⟩, ⟨rfl, rfl, rfl, Nat.le_of_eq hsize.symm⟩⟩
  · intro q _ hq
    rw [hheap, if_neg (fun e => hq ((h1 q).2 e.symm))]
  · exact ⟨fun _ => Iff.rfl, ty, (0, 0), by rw [hheap, if_pos rfl], fun _ => rfl⟩
  · intro q hq
    exact Or.inl ((h1 q).2 hq)
theorem fmt_meets (hL : Laid0 w0 n0) (u : Nat) (h64 : u ≤ 18446744073709551615) : Meets Tryd.prog 35 [.int .u64 u, .int .i64 10] [keptHP n0 w0] fun x hs => x = strV (Lib.decDigits u) ∧ hs = [keptHP n0 w0] := by
  refine Meets.of_look (C := cxF) (cnt := { i := 1, p := 1 }) (ρ := { iv := [(u : Int)], pv := [keptHP n0 w0] }) okT okFT okM Tryd.func35 (by constructor <;> rfl) rfl rfl
    (fun v => v = strV (Lib.decDigits u)) (args := [.int .u64 (.var 0), .int .i64 (.lit 10)]) run_fmt (vc_fmt Tryd.prog (fun v _ => v = strV (Lib.decDigits u)) u (keptHP n0 w0) (fun _ => LC.none)) ?_
  unfold st_fmt
  refine ⟨fun h => ⟨by omega, fun _ => ⟨by omega, fun _ => ⟨_, small_meets u (by omega), ?_⟩⟩⟩, fun h b => ?_⟩
  · rintro _ _ ⟨rfl, rfl⟩
    exact ⟨rowS (Lib.decDigits u), strV_row _, rfl, by rw [strD_rowS]; rfl⟩
  · have hn := Lib.numDigits_eq u (by omega) (by omega)
    have hn20 : Lib.nDigits u ≤ 20 := by split at hn <;> omega
    refine ⟨_, nd_meets hL u (by omega) (by omega), ?_⟩
    rintro _ _ ⟨rfl, rfl⟩
    refine ⟨(Lib.nDigits u : Int), rfl, rfl, by omega, fun _ => ⟨by omega, fun _ => ?_⟩⟩
    rw [Int.toNat_natCast]
    have fb := fb_meets b u (by omega) hn20
    refine ⟨_, by simpa using fb, ?_⟩
    rintro _ _ ⟨rfl, A, hA, rfl⟩
    refine ⟨A, rfl, by simp, ?_⟩
    show Value.string _ = _
    rw [strD_bytF, Int.toNat_natCast, hA]
    rfl
theorem below_bytes (w : World) (t : ByteArray) {w' : World} (h : w' = w ∨ w' = Lib.bytesWorld w 5 t) : Below w.heap.size w w' := by
  rcases h with rfl | rfl
  · exact Below.refl _ _
  · exact Lib.bytesWorld_below _ _ _
def PU (B : Nat) (l : List UInt8) (v : Value) : Prop := ∃ n : Nat, n ≤ 2 ^ B - 1 ∧ ((v = .tuple #[.int .u64 n, .nilIface] ∧ Lib.parseUintB B l = .ok n) ∨ ∃ t x, v = .tuple #[.int .u64 n, .iface t x] ∧ Lib.parseUintB B l ≠ .ok n ∧ numP B l = (n, false))
theorem meets_PU {f B : Nat} {l : List UInt8} {args : List Value} (h : ∀ w, (∀ k, k < n0 → w.heap[k]? = w0.heap[k]?) → Calls Tryd.prog f args.toArray w fun e w' => ∃ v, e = .returned v ∧ PU B l v ∧ Below w.heap.size w w') :
    Meets Tryd.prog f args [keptHP n0 w0] fun x hs => PU B l x ∧ hs = [keptHP n0 w0] := by
  intro w Fs ho
  have ho' := ho
  obtain ⟨S, hS⟩ := ho
  refine (h w (hS.at_ 0 (keptHP n0 w0) rfl).1.2).mono ?_
  rintro e w' ⟨v, rfl, hp, h1, h2, h3, h4, h5⟩
  exact ⟨v, _, rfl, ⟨hp, rfl⟩, ⟨S, hS.keep h4 fun k hk => h5 k hk⟩, ⟨h1, h2, h3, h4⟩⟩
theorem numP_syntax {B : Nat} {l : List UInt8} (h : Lib.parseUintB B l = Tryd.synE) : numP B l = (0, false) := by rw [numP, h]; rfl
theorem numP_range {B : Nat} {l : List UInt8} (h : Lib.parseUintB B l = .range) : numP B l = (2 ^ B - 1, false) := by rw [numP, h]
theorem pu8_meets (hL : Laid0 w0 n0) (l : List UInt8) (hl : l.length ≤ 281474976710656) : Meets Tryd.prog 69 [strV l, .int .i64 10, .int .i64 8] [keptHP n0 w0] fun x hs => PU 8 l x ∧ hs = [keptHP n0 w0] := by
  refine meets_PU fun w hk => ?_
  rcases hp : Lib.parseUintB 8 l with u | _ | _
  · refine (Tryd.strconv_ParseUint_10_at8_ok ⟨l.toArray⟩ (by simp [ByteArray.size]; omega) u hp w).mono ?_
    rintro e w' ⟨rfl, hw⟩
    exact ⟨_, rfl, ⟨u, Lib.parseUintB_le hp, Or.inl ⟨rfl, hp⟩⟩, below_bytes w _ hw⟩
  · obtain ⟨te, pe, hv⟩ := (hL.keep hk).syn
    refine (Tryd.strconv_ParseUint_10_at8_syntax ⟨l.toArray⟩ (by simp [ByteArray.size]; omega) hp _ w hv (Or.inr ⟨te, pe, rfl⟩)).mono ?_
    rintro e w' ⟨N, rfl, _, _, hb⟩
    exact ⟨_, rfl, ⟨0, Nat.zero_le _, Or.inr ⟨_, _, rfl, by rw [hp]; simp, numP_syntax hp⟩⟩, hb⟩
  · obtain ⟨te, pe, hv⟩ := (hL.keep hk).rng
    refine (Tryd.strconv_ParseUint_10_at8_range ⟨l.toArray⟩ (by simp [ByteArray.size]; omega) hp _ w hv (Or.inr ⟨te, pe, rfl⟩)).mono ?_
    rintro e w' ⟨N, rfl, _, _, hb⟩
    exact ⟨_, rfl, ⟨255, Nat.le_refl _, Or.inr ⟨_, _, rfl, by rw [hp]; simp, numP_range hp⟩⟩, hb⟩
end Go.RX.Lf

namespace Go.RX.Ln
open Go.RX Go.Proofs
def halfs : List Int := [48, 49, 50, 51, 52, 53, 54, 55, 56, 57, 97, 98, 99, 100, 101, 102]
def wordsL : List (List UInt8) := [[], [101, 118, 101, 110, 116], [98, 121, 116, 101, 115], [109, 105, 115, 115, 105, 110, 103], [117, 110, 108, 105, 107, 101], [109, 111, 114, 101], [111, 114, 100, 101, 114], [111, 112, 101, 110]]
end Go.RX.Ln

namespace Go.RX.Sp
open Go Go.RX Go.Proofs Go.RX.Ln Go.RX.Lp Go.RX.Lf Go.RowKit
variable {w0 : World} {n0 : Nat}
theorem band15 : ∀ a : Fin 256, iop .band .u8 (a.val : Int) 15 = ((a.val % 16 : Nat) : Int) := by decide +kernel
theorem band_at (a : Int) (h : 0 ≤ a ∧ a ≤ 255) : iop .band .u8 a 15 = a % 16 := by
  have := band15 ⟨a.toNat, by omega⟩
  simp only at this
  rw [show ((a.toNat : Nat) : Int) = a by omega] at this
  rw [this]
  omega
theorem shr_at (a : Int) (_ : 0 ≤ a ∧ a ≤ 255) : iop .shr .u8 a 4 = a / 16 := by
  show a.fdiv 16 = a / 16
  rw [Int.fdiv_eq_ediv_of_nonneg _ (by decide)]
def nibF (l : List UInt8) (j : Nat) : Int := rowLF halfs (if j % 2 = 0 then (l.getD (j / 2) 0).toNat / 16 else (l.getD (j / 2) 0).toNat % 16)
def hexS (l : List UInt8) : List UInt8 := if l = [] then [45] else (List.range (2 * l.length)).map fun j => UInt8.ofNat (nibF l j).toNat
def bytesF (l : List UInt8) : Nat → Int := fun j => ((l.getD j 0).toNat : Int)
def cellsB (l : List UInt8) : List Value := tabL l.length [colI .u8 1 (bytesF l)]
theorem bytesF_range (l : List UInt8) (j : Nat) : 0 ≤ bytesF l j ∧ bytesF l j ≤ 255 := by
  have := (l.getD j 0).toNat_lt
  unfold bytesF
  omega
theorem half_r : ∀ v : Nat, v < 16 → 0 ≤ rowLF halfs v ∧ rowLF halfs v ≤ 255 := by decide
theorem nibF_range (l : List UInt8) (j : Nat) : 0 ≤ nibF l j ∧ nibF l j ≤ 255 := by
  have := (l.getD (j / 2) 0).toNat_lt
  unfold nibF
  split
  · exact half_r _ (by omega)
  · exact half_r _ (by omega)
theorem seg_bytes (k : Nat) (A : Nat → Int) (h : ∀ j, j < k → 0 ≤ A j ∧ A j ≤ 255) : segCells .u8 k A = Lib.byteCells ((List.range k).map fun j => UInt8.ofNat (A j).toNat) := by
  unfold segCells Lib.byteCells
  rw [List.map_map]
  refine List.map_congr_left fun j hj => ?_
  have := h j (List.mem_range.1 hj)
  simp only [Function.comp]
  congr 1
  rw [UInt8.toNat_ofNat']
  omega
theorem bstring_meets (b k : Nat) (A : Nat → Int) (hk : 0 < k) (h : ∀ j, j < k → 0 ≤ A j ∧ A j ≤ 255) : Meets Tryd.prog 15 [.pointer (some ⟨b, 0, none⟩)] [bldHP b 47 5 (segCells .u8 k A)] fun x hs => x = strV ((List.range k).map fun j => UInt8.ofNat (A j).toNat) ∧ hs = [] := by
  rw [seg_bytes k A h]
  refine Au.meets_drop rfl fun w S hS => ?_
  exact Sb.string Tryd.lays169 Tryd.Builder_Extra_169 b _ w S hS (by simp; omega)
theorem map_nib (l : List UInt8) (k : Nat) (A : Nat → Int) (hk : k = 2 * l.length) (h : ∀ j, j < k → A j = nibF l j) (hne : l ≠ []) : ((List.range k).map fun j => UInt8.ofNat (A j).toNat) = hexS l := by
  unfold hexS
  rw [if_neg hne, hk]
  refine List.map_congr_left fun j hj => ?_
  rw [h j (by have := List.mem_range.1 hj; omega)]
theorem hex_meets (v : V1) (l : List UInt8) (hl : l.length ≤ 10000000) : Meets Tryd.prog 24 [v.v] [sliHP false 5 1 v.v l.length (cellsB l)] fun x hs => x = strV (hexS l) ∧ hs = [sliHP false 5 1 v.v l.length (cellsB l)] := by
  have hr : Meets Tryd.prog 24 [v.v] [sliHP false 5 1 v.v l.length (cellsB l)] fun x _ => x = strV (hexS l) := by
    have := Meets.of_runE (C := cxH) (cnt := { i := 1, a := 1, v := 1 }) (ρ := { iv := [(l.length : Int)], av := [bytesF l], vv := [v] }) okT okFT okM Tryd.func24 (by constructor <;> rfl) (Post := fun x _ => x = strV (hexS l))
      (args := [.vv 0]) (hp := [.sli false 0 5 1 (.var 0) [⟨.int .u8, 1, .avar 0⟩]]) run_hex (vc_hex Tryd.prog (fun x _ => x = strV (hexS l)) l.length (bytesF l) v (fun _ => LC.none)) ?_ (Sc.pure_ok cxH rfl)
    · exact this
    · unfold st_hex
      refine ⟨by omega, fun _ => ⟨fun h => ?_, fun h b => ?_⟩⟩
      · have : l = [] := List.eq_nil_of_length_eq_zero (by omega)
        show _ = _
        rw [this]
        rfl
      · have hne : l ≠ [] := fun e => h (by rw [e]; rfl)
        refine ⟨fun e => 0 ≤ e.i.getD 0 0 ∧ e.i.getD 0 0 ≤ l.length ∧ e.i.getD 1 0 = 2 * e.i.getD 0 0 ∧ ∀ j : Nat, (j : Int) < 2 * e.i.getD 0 0 → (e.a.getD 0 fun _ => 0) j = nibF l j, fun e => ((l.length : Int) - e.i.getD 0 0).toNat,
          ⟨0, 0, fun _ => 0, rfl, rfl, fun _ _ => rfl, by simp, by simp, rfl, fun j hj => by simp at hj; omega⟩, ?_⟩
        rintro i m B ⟨hi0, hi1, hm, hB⟩
        simp only [List.getD_cons_zero, List.getD_cons_succ] at hi0 hi1 hm hB
        subst hm
        refine ⟨fun hi => ?_, fun hi => ?_⟩
        · have hb := bytesF_range l i.toNat
          rw [shr_at _ hb, band_at _ hb]
          refine ⟨by omega, fun _ => ⟨by omega, fun _ => ⟨by omega, fun _ => ⟨by omega, fun _ => ⟨by omega, fun _ => ⟨by omega, fun _ => ⟨by omega, fun _ => ⟨by omega, fun _ => ⟨by omega, fun _ => ⟨by omega, fun _ => ⟨by omega, fun _ => ?_⟩⟩⟩⟩⟩⟩⟩⟩⟩⟩⟩
          refine ⟨_, _, _, rfl, rfl, fun _ _ => rfl, ⟨?_, ?_, ?_, ?_⟩, ?_⟩
          · simp only [List.getD_cons_zero]; omega
          · simp only [List.getD_cons_zero]; omega
          · simp only [List.getD_cons_zero, List.getD_cons_succ]; omega
          · simp only [List.getD_cons_zero]
            intro j hj
            simp only [updF]
            by_cases h1 : j = (2 * i + 1).toNat
            · rw [if_pos h1]
              unfold nibF
              rw [if_neg (by omega), show j / 2 = i.toNat by omega]
              unfold bytesF
              congr 1
            · rw [if_neg h1]
              by_cases h2 : j = (2 * i).toNat
              · rw [if_pos h2]
                unfold nibF
                rw [if_pos (by omega), show j / 2 = i.toNat by omega]
                unfold bytesF
                congr 1
              · rw [if_neg h2]
                exact hB j (by omega)
          · simp only [List.getD_cons_zero]; omega
        · obtain rfl : i = l.length := by omega
          have h0 : 0 < l.length := by omega
          refine ⟨_, bstring_meets b (2 * (l.length : Int)).toNat B (by omega) (fun j hj => by rw [hB j (by omega)]; exact nibF_range l j), ?_⟩
          rintro _ _ ⟨rfl, rfl⟩
          refine ⟨rowS (hexS l), by rw [map_nib l _ B (by omega) (fun j hj => hB j (by omega)) hne, strV_row], rfl, ?_⟩
          show _ = _
          rw [strD_rowS]
          rfl
  exact hr.look rfl
theorem fmtI (hL : Laid0 w0 n0) (n : Int) (h0 : 0 ≤ n) (h1 : n ≤ 18446744073709551615) : Meets Tryd.prog 35 [.int .u64 n, .int .i64 10] [keptHP n0 w0] fun x hs => x = strV (Lib.decDigits n.toNat) ∧ hs = [keptHP n0 w0] := by
  have := fmt_meets hL n.toNat (by omega)
  rw [show ((n.toNat : Nat) : Int) = n by omega] at this
  exact this
end Go.RX.Sp
