/- The law hailerlaw27.CallKnown holds: it has no input; whatever the memory is, the call returns true and writes nothing that was there. Conditions: none. -/
import Derived.Test.YtphemenngjkfbaaCmA
import Derived.Test.YtphemenngjkfbaaKnAnn
import Derived.Test.YtphemenngjkfbaaRxZg
import Derived.Test.YtphemenngjkfbaaProg
import Derived.WalkKit
import Derived.ProofKit
import Derived.Lib.Walk
import Derived.Lib.BytesEntry
import Derived.Test.YtphemenngjkfbaaCmD
import Derived.Test.YtphemenngjkfbaaRows
import Derived.OpenShut
import Derived.Below

namespace Go.RX.Kn
open Go.RX Go.Proofs
noncomputable def cx : Ctx := { T := TT, FT := FT, calls := calls }
end Go.RX.Kn

namespace Go.RX.Kn
open Go.RX Go.Proofs
set_option maxRecDepth 100000
noncomputable def fm_known : F := runF cx 10 ([]) ([]) ({ b := 0, v := 0, i := 0, a := 0, bo := 0, p := 0, r := 0 }) Try.f10
def st_known (P : Program) (Post : Value → List HP → Prop) : Prop :=
∀ _ : Nat, ∀ _ : Nat, ∀ _ : Nat, ∀ _ : Nat, ∀ b4 : Nat, ∀ b5 : Nat, ∀ _ : Nat, ∀ _ : Nat, ∀ _ : Nat, ∀ _ : Nat, ∀ _ : Nat, ∀ _ : Nat, ∀ _ : Nat, ∀ b13 : Nat, ∀ _ : Nat, ∀ _ : V1, ∀ _ : Nat, ∀ _ : V1, ∀ _ : Nat, ∀ b17 : Nat, ∀ _ : Nat, ∀ _ : Nat, ∀ _ : V1, ∀ _ : Nat, ∀ _ : Nat, ∀ _ : Nat, ∀ _ : Nat, ∀ (_ _ : Nat) (_ : Loop), ∀ _ : Nat, ∀ _ : Nat, ∀ _ : Nat, ∀ _ : Nat, ∀ _ : V1, ∀ _ : Nat, ∀ _ : Nat, ∀ _ : Nat, ∀ _ : Nat, ∀ _ : V1, ∀ _ : Nat, ∀ _ : Nat, ∀ _ : Nat, ∀ _ : Nat, ∀ _ : Nat, ∀ _ : Nat, ∀ _ : Nat, ∀ b41 : Nat, ∀ _ : Nat, ∀ _ : Nat, ∀ _ : Nat, ∃ post, Meets P 116 [.slice (some ⟨b41, 1, none⟩) 16 16, .slice (some ⟨b5, 12, none⟩) 16 16] [rowHP b41 true (.int .u8 1 :: (.int .u8 7 :: (segCells .u8 15 (fun _ => 0) ++ (.int .u8 1 :: (.int .u8 0 :: (.int .u8 0 :: (segCells .u8 32 (fun _ => 0) ++ ([.int .u32 0, .slice none 0 0, .int .u8 0])))))))), rowHP b5 true (.int .u8 0 :: (.int .u8 0 :: (.int .u8 2 :: (.int .u8 2 :: (.int .u8 1 :: (.int .u8 4 :: (.int .u8 0 :: (.int .u8 5 :: (segCells .u8 2 (fun _ => 0) ++ (.pointer (some ⟨b4, 0, none⟩) :: (.int .u8 1 :: (.int .u8 5 :: (segCells .u8 15 (fun _ => 0) ++ (.bool true :: (.int .u8 1 :: (.int .u8 0 :: (.int .u8 0 :: (.int .u8 1 :: (segCells .u8 31 (fun _ => 0) ++ (segCells .u8 32 (fun _ => 0) ++ (segCells .u8 32 (fun _ => 0) ++ ([.pointer (some ⟨b13, 0, none⟩), .pointer (some ⟨b17, 0, none⟩), .int .u64 10, .int .u64 0, .int .u64 10, .int .u64 0, .int .u64 0, .int .u32 0]))))))))))))))))))))))] post ∧
∀ x hs, post x hs → ∃ x0 : Int, x = .int .i64 x0 ∧ hs = [rowHP b41 true (.int .u8 1 :: (.int .u8 7 :: (segCells .u8 15 (fun _ => 0) ++ (.int .u8 1 :: (.int .u8 0 :: (.int .u8 0 :: (segCells .u8 32 (fun _ => 0) ++ ([.int .u32 0, .slice none 0 0, .int .u8 0])))))))), rowHP b5 true (.int .u8 0 :: (.int .u8 0 :: (.int .u8 2 :: (.int .u8 2 :: (.int .u8 1 :: (.int .u8 4 :: (.int .u8 0 :: (.int .u8 5 :: (segCells .u8 2 (fun _ => 0) ++ (.pointer (some ⟨b4, 0, none⟩) :: (.int .u8 1 :: (.int .u8 5 :: (segCells .u8 15 (fun _ => 0) ++ (.bool true :: (.int .u8 1 :: (.int .u8 0 :: (.int .u8 0 :: (.int .u8 1 :: (segCells .u8 31 (fun _ => 0) ++ (segCells .u8 32 (fun _ => 0) ++ (segCells .u8 32 (fun _ => 0) ++ ([.pointer (some ⟨b13, 0, none⟩), .pointer (some ⟨b17, 0, none⟩), .int .u64 10, .int .u64 0, .int .u64 10, .int .u64 0, .int .u64 0, .int .u32 0]))))))))))))))))))))))] ∧
 Fork (x0 < 0) (
  ∀ _ : Nat, ∀ _ : Nat, ∀ _ : Nat, ∀ _ : Nat, ∀ _ : Nat, ∀ _ : Nat, ∀ _ : Nat, ∀ (_ _ : Nat) (_ : Loop), ∀ _ : Nat, ∀ _ : Nat, ∀ _ : Nat, ∀ _ : Nat, ∀ _ : V1, ∀ _ : Nat, ∀ _ : Nat, ∀ _ : Nat, ∀ _ : Nat, ∀ _ : V1, ∀ _ : Nat, ∀ _ : Nat, ∀ _ : V1, ∀ _ : Nat, ∀ _ : V1, ∀ _ : Nat, ∀ _ : Nat, ∀ _ : Nat, ∀ _ : Nat, ∀ _ : Nat, ∀ _ : V1, ∀ _ : Nat, ∀ _ : Nat, ∀ _ : Nat, ∀ _ : Nat, ∀ _ : V1, ∀ _ : Nat, ∃ post, Meets P 44 [.agg (.int .u8 7 :: (segCells .u8 15 (fun _ => 0) ++ ([]))).toArray, .agg (segCells .u8 32 (fun _ => 0) ++ ([])).toArray, .agg (.int .u8 1 :: (segCells .u8 31 (fun _ => 0) ++ ([]))).toArray, .agg #[.int .u8 1, .int .u8 0], .agg #[.int .u8 0, .int .u8 0]] [] post ∧
  ∀ x hs, post x hs → ∃ A0 : (Nat → Int), x = .agg (segCells .u8 32 A0 ++ ([])).toArray ∧ hs = [] ∧
  ∀ _ : Nat, ∀ _ : Nat, ∀ _ : Nat, ∀ _ : V1, ∀ _ : Nat, ∀ _ : Nat, ∀ _ : Nat, ∀ _ : V1, ∀ _ : Nat, ∀ _ : Nat, ∀ _ : Nat, ∀ _ : V1, ∀ _ : Nat, ∀ _ : Nat, ∀ _ : Nat, ∀ _ : Nat, ∀ _ : Nat, ∀ _ : Nat, ∀ _ : Nat, ∀ _ : Nat, ∀ _ : Nat, ∀ _ : Nat, ∀ _ : Nat, ∀ _ : Nat, False) (
  ∀ _ : Nat, ∀ _ : Nat, ∀ _ : Nat, ∀ _ : Nat, ∀ _ : Nat, ∀ _ : Nat, ∀ _ : Nat, ∀ _ : Nat, ∀ b53 : Nat, ∀ _ : Nat, ∀ _ : Nat, ∀ _ : Nat, ∃ post, Meets P 116 [.slice (some ⟨b53, 1, none⟩) 16 16, .slice (some ⟨b5, 12, none⟩) 16 16] [rowHP b53 true (.int .u8 1 :: (.int .u8 3 :: (segCells .u8 15 (fun _ => 0) ++ (.int .u8 1 :: (.int .u8 0 :: (.int .u8 0 :: (segCells .u8 32 (fun _ => 0) ++ ([.int .u32 0, .slice none 0 0, .int .u8 0])))))))), rowHP b5 true (.int .u8 0 :: (.int .u8 0 :: (.int .u8 2 :: (.int .u8 2 :: (.int .u8 1 :: (.int .u8 4 :: (.int .u8 0 :: (.int .u8 5 :: (segCells .u8 2 (fun _ => 0) ++ (.pointer (some ⟨b4, 0, none⟩) :: (.int .u8 1 :: (.int .u8 5 :: (segCells .u8 15 (fun _ => 0) ++ (.bool true :: (.int .u8 1 :: (.int .u8 0 :: (.int .u8 0 :: (.int .u8 1 :: (segCells .u8 31 (fun _ => 0) ++ (segCells .u8 32 (fun _ => 0) ++ (segCells .u8 32 (fun _ => 0) ++ ([.pointer (some ⟨b13, 0, none⟩), .pointer (some ⟨b17, 0, none⟩), .int .u64 10, .int .u64 0, .int .u64 10, .int .u64 0, .int .u64 0, .int .u32 0]))))))))))))))))))))))] post ∧
  ∀ x hs, post x hs → ∃ x1 : Int, x = .int .i64 x1 ∧ hs = [rowHP b53 true (.int .u8 1 :: (.int .u8 3 :: (segCells .u8 15 (fun _ => 0) ++ (.int .u8 1 :: (.int .u8 0 :: (.int .u8 0 :: (segCells .u8 32 (fun _ => 0) ++ ([.int .u32 0, .slice none 0 0, .int .u8 0])))))))), rowHP b5 true (.int .u8 0 :: (.int .u8 0 :: (.int .u8 2 :: (.int .u8 2 :: (.int .u8 1 :: (.int .u8 4 :: (.int .u8 0 :: (.int .u8 5 :: (segCells .u8 2 (fun _ => 0) ++ (.pointer (some ⟨b4, 0, none⟩) :: (.int .u8 1 :: (.int .u8 5 :: (segCells .u8 15 (fun _ => 0) ++ (.bool true :: (.int .u8 1 :: (.int .u8 0 :: (.int .u8 0 :: (.int .u8 1 :: (segCells .u8 31 (fun _ => 0) ++ (segCells .u8 32 (fun _ => 0) ++ (segCells .u8 32 (fun _ => 0) ++ ([.pointer (some ⟨b13, 0, none⟩), .pointer (some ⟨b17, 0, none⟩), .int .u64 10, .int .u64 0, .int .u64 10, .int .u64 0, .int .u64 0, .int .u32 0]))))))))))))))))))))))] ∧
  Fork (x1 < 0) (
    ∀ _ : Nat, ∀ _ : Nat, ∀ _ : Nat, ∀ _ : Nat, ∀ _ : Nat, ∀ _ : Nat, ∀ _ : Nat, ∀ (_ _ : Nat) (_ : Loop), ∀ _ : Nat, ∀ _ : Nat, ∀ _ : Nat, ∀ _ : Nat, ∀ _ : V1, ∀ _ : Nat, ∀ _ : Nat, ∀ _ : Nat, ∀ _ : Nat, ∀ _ : V1, ∀ _ : Nat, ∀ _ : Nat, ∀ _ : V1, ∀ _ : Nat, ∀ _ : V1, ∀ _ : Nat, ∀ _ : Nat, ∀ _ : Nat, ∀ _ : Nat, ∀ _ : Nat, ∀ _ : V1, ∀ _ : Nat, ∀ _ : Nat, ∀ _ : Nat, ∀ _ : Nat, ∀ _ : V1, ∀ _ : Nat, ∃ post, Meets P 44 [.agg (.int .u8 3 :: (segCells .u8 15 (fun _ => 0) ++ ([]))).toArray, .agg (segCells .u8 32 (fun _ => 0) ++ ([])).toArray, .agg (.int .u8 1 :: (segCells .u8 31 (fun _ => 0) ++ ([]))).toArray, .agg #[.int .u8 1, .int .u8 0], .agg #[.int .u8 0, .int .u8 0]] [] post ∧
    ∀ x hs, post x hs → ∃ A0 : (Nat → Int), x = .agg (segCells .u8 32 A0 ++ ([])).toArray ∧ hs = [] ∧
    ∀ _ : Nat, ∀ _ : Nat, ∀ _ : Nat, ∀ _ : V1, ∀ _ : Nat, ∀ _ : Nat, ∀ _ : Nat, ∀ _ : V1, ∀ _ : Nat, ∀ _ : Nat, ∀ _ : Nat, ∀ _ : V1, ∀ _ : Nat, ∃ post, Meets P 46 [] [] post ∧
    ∀ x hs, post x hs → x = .bool true ∧ hs = [] ∧
    ∀ _ : Nat, ∀ _ : Nat, ∀ _ : Nat, ∀ _ : Nat, ∀ _ : Nat, ∀ _ : Nat, ∀ _ : Nat, ∀ _ : Nat, ∀ _ : Nat, ∀ _ : Nat, ∀ _ : Nat, ∀ _ : Nat, ∀ _ : Nat, ∀ _ : Nat, ∀ _ : Nat, ∀ _ : Nat, ∀ _ : Nat, ∀ _ : Nat, ∀ _ : Nat, ∀ _ : Nat, ∀ _ : Nat, ∀ _ : V1, ∀ _ : Nat, ∀ _ : Nat, ∀ _ : Nat, ∀ _ : Nat, ∀ _ : Nat, ∀ _ : Nat, ∀ _ : Nat, ∀ _ : Nat, ∀ _ : V1, ∀ _ : Nat, ∀ _ : Nat, ∀ _ : V1, ∀ _ : Nat, ∀ _ : V1, ∀ _ : Nat, ∀ _ : Nat, ∀ _ : Nat, ∀ _ : Nat, ∀ _ : Nat, ∀ _ : V1, ∀ _ : Nat, ∀ _ : Nat, ∀ _ : Nat, ∀ _ : Nat, ∀ _ : Nat, ∀ _ : Nat, ∀ _ : Nat, ∀ _ : Nat, ∀ _ : Nat, ∀ _ : Nat, ∀ _ : Nat, ∀ _ : Nat, ∀ _ : Nat, ∀ _ : Nat, ∀ _ : Nat, ∀ _ : Nat, ∀ _ : Nat, ∀ _ : Nat, ∀ _ : Nat, ∀ _ : Nat, ∀ _ : Nat, ∀ _ : Nat, ∀ _ : Nat, ∀ _ : Nat, ∀ _ : Nat, ∀ _ : Nat, ∀ _ : Nat, ∀ _ : Nat, ∀ _ : Nat, Post (.bool true) []) (
    ∀ _ : Nat, ∃ post, Meets P 46 [] [] post ∧
    ∀ x hs, post x hs → x = .bool true ∧ hs = [] ∧
    Post (.bool false) []))
theorem vc_known (P : Program) (Post : Value → List HP → Prop) (L : Nat → LC) : VC P (fun v _ => Post v []) fm_known { iv := [], av := [], bo := [], bv := [], vv := [] } L = st_known P Post := by kernel_rfl
theorem run_known : runF cx 10 ([]) ([]) ({ b := 0, v := 0, i := 0, a := 0, bo := 0, p := 0, r := 0 }) Try.f10 = fm_known := rfl
end Go.RX.Kn

namespace Go.RX.Cb
open Go.RX Go.Proofs Go.RowKit

theorem run_compareSlice {P : Program} (w : World) (b1 o1 c1 b2 o2 c2 n : Nat) (xs ys : List Int) (hx : xs.length = n) (hy : ys.length = n) (h1 : ∀ i, i < n → w.cell? ⟨b1, o1 + i, none⟩ = some (.int .u8 (xs.getD i 0)))
    (h2 : ∀ i, i < n → w.cell? ⟨b2, o2 + i, none⟩ = some (.int .u8 (ys.getD i 0))) :
    (Extern.BytealgCompare.compare #[.slice (some ⟨b1, o1, none⟩) n c1, .slice (some ⟨b2, o2, none⟩) n c2]).run P w = .ok (.int .i64 (Lib.compareBytes (Lib.bytesOf xs) (Lib.bytesOf ys))) w := by
  have load : ∀ (b o : Nat) (zs : List Int), zs.length = n → (∀ i, i < n → w.cell? ⟨b, o + i, none⟩ = some (.int .u8 (zs.getD i 0))) → (Extern.Bytes.loadBytes ⟨b, o, none⟩ n .empty).run P w = .ok ⟨(Lib.bytesOf zs).toArray⟩ w := by
    intro b o zs hl hc
    have h := Lib.run_loadBytesX (P := P) w zs ⟨b, o, none⟩ .empty (fun j x hj => by
      have hjl : j < zs.length := (List.getElem?_eq_some_iff.1 hj).1
      have e : (⟨b, o, none⟩ : Addr).add j = ⟨b, o + j, none⟩ := by unfold Addr.add; split <;> simp_all
      rw [e, hc j (by omega), List.getD_eq_getElem?_getD, hj]
      rfl)
    rw [hl] at h
    have he : (⟨ByteArray.empty.data ++ (Lib.bytesOf zs).toArray⟩ : ByteArray) = ⟨(Lib.bytesOf zs).toArray⟩ := by
      apply ByteArray.ext
      show (#[] : Array UInt8) ++ (Lib.bytesOf zs).toArray = (Lib.bytesOf zs).toArray
      simp
    rw [he] at h
    exact h
  change Sem.run P (do pure (goInt (Extern.BytealgCompare.cmp (← Extern.Bytes.bytesOf (.slice (some ⟨b1, o1, none⟩) n c1)) (← Extern.Bytes.bytesOf (.slice (some ⟨b2, o2, none⟩) n c2))))) w = _
  simp only [Extern.Bytes.bytesOf, Sem.run_bind, Sem.run_pure, load b1 o1 xs hx h1, load b2 o2 ys hy h2, Result.andThen]
  rw [Lib.cmp_eq]
  rfl

set_option maxRecDepth 100000 in
set_option maxHeartbeats 1000000 in
theorem compare_calls (w : World) (b1 o1 c1 b2 o2 c2 n : Nat) (xs ys : List Int) (hx : xs.length = n) (hy : ys.length = n) (h1 : ∀ i, i < n → w.cell? ⟨b1, o1 + i, none⟩ = some (.int .u8 (xs.getD i 0)))
    (h2 : ∀ i, i < n → w.cell? ⟨b2, o2 + i, none⟩ = some (.int .u8 (ys.getD i 0))) :
    Calls Try.prog 116 #[.slice (some ⟨b1, o1, none⟩) n c1, .slice (some ⟨b2, o2, none⟩) n c2] w fun e w' => e = .returned (.int .i64 (Lib.compareBytes (Lib.bytesOf xs) (Lib.bytesOf ys))) ∧ w' = w := by
  have H := run_compareSlice (P := Try.prog) w b1 o1 c1 b2 o2 c2 n xs ys hx hy h1 h2
  clear hx hy h1 h2
  go_enter Try.func116, Try.ntmps116
  go_wp2
  rw [run_callFunc_extern Try.func136 (by kernel_rfl) (by kernel_rfl) (by kernel_rfl) (e := Extern.BytealgCompare.compare) (by kernel_rfl), H]
  simp only [Result.andThen]
  rw [Oper.upon_value]
  go_wp2
  go_ret
  exact ⟨rfl, rfl⟩

theorem row_cell {w : World} {b o : Nat} {cs : List Value} {ty : TypeId} {fz : Nat × Nat} {v : Value} (h : w.heap[b]? = some (.cells cs.toArray ty fz)) (hv : cs[o]? = some v) : w.cell? ⟨b, o, none⟩ = some v := by
  simp [World.cell?, h, hv]

theorem compare_meets (b1 o1 b2 o2 n : Nat) (w1 w2 : Bool) (cs1 cs2 : List Value) (xs ys : List Int) (hx : xs.length = n) (hy : ys.length = n) (h1 : ∀ i, i < n → cs1[o1 + i]? = some (.int .u8 (xs.getD i 0))) (h2 : ∀ i, i < n → cs2[o2 + i]? = some (.int .u8 (ys.getD i 0))) :
    Meets Try.prog 116 [.slice (some ⟨b1, o1, none⟩) n n, .slice (some ⟨b2, o2, none⟩) n n] [rowHP b1 w1 cs1, rowHP b2 w2 cs2]
      (fun r hs => r = .int .i64 (Lib.compareBytes (Lib.bytesOf xs) (Lib.bytesOf ys)) ∧ hs = [rowHP b1 w1 cs1, rowHP b2 w2 cs2]) := by
  intro w Fs hown
  obtain ⟨S, hS⟩ := hown
  obtain ⟨_, ty1, fz1, g1, _⟩ := (hS.at_ 0 (rowHP b1 w1 cs1) rfl).1
  obtain ⟨_, ty2, fz2, g2, _⟩ := (hS.at_ 1 (rowHP b2 w2 cs2) rfl).1
  refine (compare_calls w b1 o1 n b2 o2 n n xs ys hx hy (fun i hi => row_cell g1 (h1 i hi)) (fun i hi => row_cell g2 (h2 i hi))).mono ?_
  rintro e w' ⟨rfl, rfl⟩
  exact ⟨_, _, rfl, ⟨rfl, rfl⟩, ⟨S, hS⟩, Same.refl w'⟩
end Go.RX.Cb

namespace Go.RX.Kn
open Go.RX Go.Proofs Go.RX.Sh Go.RX.Md Go.RX.Cb

theorem at16 {cs : List Value} {o : Nat} {xs : List Int} (h : (cs.drop o).take 16 = segCells .u8 16 fun i => xs.getD i 0) (i : Nat) (hi : i < 16) : cs[o + i]? = some (.int .u8 (xs.getD i 0)) := by
  have := congrArg (·[i]?) h
  simpa [hi, segCells] using this
def z15 (n : Int) : List Int := n :: List.replicate 15 0
/-- Keys of zeros too. -/
theorem mediaZ (x z d0 d1 d2 d3 : Nat) (hx : x < 256) (hz : z < 256) (e0 : d0 < 256) (e1 : d1 < 256) (e2 : d2 < 256) (e3 : d3 < 256) :
    Meets Try.prog 44 [.agg (.int .u8 (x : Int) :: (segCells .u8 15 (fun _ => 0) ++ ([]))).toArray, .agg (segCells .u8 32 (fun _ => 0) ++ ([])).toArray, .agg (.int .u8 (z : Int) :: (segCells .u8 31 (fun _ => 0) ++ ([]))).toArray, .agg #[.int .u8 (d0 : Int), .int .u8 (d1 : Int)], .agg #[.int .u8 (d2 : Int), .int .u8 (d3 : Int)]] []
      (fun r hs => ∃ A : Nat → Int, r = .agg (segCells .u8 32 A ++ ([])).toArray ∧ hs = [] ∧ ∀ j, j < 32 → A j = ((sum2 (msg (lead x) (fun _ => 0) (lead z) d0 d1 d2 d3) j : Nat) : Int)) := by
  rw [lead_cells, lead_cells]
  exact media_meets _ _ _ _ _ _ d0 d1 d2 d3 (fun _ _ => rfl) (fun _ _ => rfl) (fun _ _ => rfl) (fun j _ => lead_lt hx j) (fun j _ => (by decide : 0 < 256)) (fun j _ => lead_lt hz j) e0 e1 e2 e3
theorem c75 : ¬ Lib.compareBytes (Lib.bytesOf (z15 7)) (Lib.bytesOf (z15 5)) < 0 := by decide +kernel
theorem c35 : Lib.compareBytes (Lib.bytesOf (z15 3)) (Lib.bytesOf (z15 5)) < 0 := by decide +kernel

theorem law_meets : Meets Try.prog 10 [] [] (fun v hs => v = .bool true ∧ hs = []) := by
  refine Meets.bare (C := cx) okT okFT okM Try.func10 (fun v _ => v = .bool true) run_known (vc_known Try.prog (fun v _ => v = .bool true) _) ?_
  unfold st_known
  intros
  refine ⟨_, compare_meets _ 1 _ 12 16 true true _ _ (z15 7) (z15 5) rfl rfl (at16 ?_) (at16 ?_), ?_⟩
  · rfl
  · rfl
  rintro x hs ⟨rfl, rfl⟩
  refine ⟨_, rfl, rfl, fun h => absurd h c75, fun _ => ?_⟩
  intros
  refine ⟨_, compare_meets _ 1 _ 12 16 true true _ _ (z15 3) (z15 5) rfl rfl (at16 ?_) (at16 ?_), ?_⟩
  · rfl
  · rfl
  rintro x hs ⟨rfl, rfl⟩
  refine ⟨_, rfl, rfl, fun _ => ?_, fun h => absurd c35 h⟩
  intros
  refine ⟨_, mediaZ 3 1 1 0 0 0 (by decide) (by decide) (by decide) (by decide) (by decide) (by decide), ?_⟩
  rintro x hs ⟨A0, rfl, rfl, -⟩
  refine ⟨A0, rfl, rfl, ?_⟩
  intros
  refine ⟨_, works_meets, ?_⟩
  rintro x hs ⟨rfl, rfl⟩
  refine ⟨rfl, rfl, ?_⟩
  intros
  rfl
end Go.RX.Kn

namespace Go.Proofs.Ytphemenngjkfbaa.callKnown
open Go.ChangeShapes Go.WideShapes Go.ChangeAt Go.RowKit

theorem own : ownKnob Try.prog.godebug = none := by kernel_rfl

theorem walk (w : World) : Calls Try.prog 10 #[] w fun e w' => e = .returned (.bool true) ∧ Below w.heap.size w w' :=
  (RX.Kn.law_meets.post fun v hs h => ⟨hs, RX.Ent.refl _, h.1⟩ : RX.Meets Try.prog 10 [] [] fun v _ => v = .bool true).law w (RX.owns_kept w)

set_option maxRecDepth 100000 in
theorem lifted (os : Os) (started : os.Started) (H : Type) (enc : TypeId × Value → H) :
    ReturnsInHanded {} Try.checked os 10 .any (Rows.callKnownSpec.pre6 enc Try.prog Try.f10 Rows.callKnownRow.domain false) (Rows.callKnownSpec.post enc Try.prog Try.f10 false true false false) := by
  refine returnsInHanded_of_change (C := Try.checked) own started (by kernel_rfl) Try.func10
    (ChangeSpec.witness6 (enc := enc) (C := Try.checked) false ⟨#[], #[], []⟩ 8 (by kernel_rfl) (by kernel_rfl) (by kernel_rfl) (by kernel_rfl)) ?_
  intro W base args ds gs before hval0 hW hcnd _
  have hW' := hW
  obtain ⟨p, q, hA0, hV, rfl, hfz, hnd⟩ := hW
  have hA : DataW.TrodAll enc Try.prog W 0 (fun _ => true) true Try.f10.params.toList args.toList ds p := hA0
  rw [Try.params10] at hA
  obtain ⟨rfl, rfl, rfl⟩ := trodAll_none hA
  obtain ⟨rfl, rfl⟩ := trodVars_none hV
  clear hA0 hval0
  simp only [List.append_nil] at hW'
  refine (walk W).mono fun e W' ⟨he, bel⟩ => ?_
  subst he
  exact ⟨_, rfl, _, _, _, [], _, [], hW', trodAll_mk1 (shut_bool Try.underlying4 _), trodAll_mk0, rfl, bel.frame _, fun h => by cases h⟩

theorem over : Rows.callKnownRow.holds Try.pinned (OpenSpec.ofChange Rows.callKnownSpec) :=
  OpenClaim.holds_of_wide 10 Try.f10 rfl rfl rfl rfl rfl rfl rfl ⟨rfl, rfl, rfl, rfl, rfl⟩ rfl rfl rfl rfl rfl (by kernel_rfl) Try.func10 (by kernel_rfl)
    (of_decide_eq_true (by kernel_rfl)) (by unfold Func.isWrapper; first | (rw [if_pos (by decide +kernel)]; kernel_rfl) | (rw [if_neg (by decide +kernel)]; exact ⟨rfl, rfl⟩))
    (fun os started H enc _ => lifted os started H enc)

theorem proved : Rows.CallKnownSaid := over
#print axioms proved
end Go.Proofs.Ytphemenngjkfbaa.callKnown
