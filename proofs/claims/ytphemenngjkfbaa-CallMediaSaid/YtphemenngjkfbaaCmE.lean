/- The law hailerlaw27.CallMedia holds: whatever the call's id, the two keys and the two devices are, the call returns true and writes nothing that was there. Conditions: none. -/
import Derived.Test.YtphemenngjkfbaaCmD
import Derived.Test.YtphemenngjkfbaaRows
import Derived.WalkKit
import Derived.ProofKit
import Derived.OpenShut
import Derived.ChangeOld
import Derived.Below

namespace Go.RX.Md
open Go.RX Go.Proofs Go.RX.Sh

theorem law_meets (A0 A1 A2 : Nat → Int) (I O N : Nat → Nat) (d0 d1 d2 d3 : Nat) (h0 : ∀ j, j < 16 → A0 j = (I j : Nat)) (h1 : ∀ j, j < 32 → A1 j = (O j : Nat)) (h2 : ∀ j, j < 32 → A2 j = (N j : Nat))
    (hI : ∀ j, j < 16 → I j < 256) (hO : ∀ j, j < 32 → O j < 256) (hN : ∀ j, j < 32 → N j < 256) (e0 : d0 < 256) (e1 : d1 < 256) (e2 : d2 < 256) (e3 : d3 < 256) :
    Meets Try.prog 9 [.agg (segCells .u8 16 A0 ++ ([])).toArray, .agg (segCells .u8 32 A1 ++ ([])).toArray, .agg (segCells .u8 32 A2 ++ ([])).toArray, .agg #[.int .u8 (d0 : Int), .int .u8 (d1 : Int)], .agg #[.int .u8 (d2 : Int), .int .u8 (d3 : Int)]] []
      (fun r _ => r = .bool true) := by
  refine Meets.of_runE (C := cx) (args := ([Go.RX.SV.agg [Go.RX.SV.seg (Go.IntKind.u8) 16 (Go.RX.E.avar 0)], Go.RX.SV.agg [Go.RX.SV.seg (Go.IntKind.u8) 32 (Go.RX.E.avar 1)], Go.RX.SV.agg [Go.RX.SV.seg (Go.IntKind.u8) 32 (Go.RX.E.avar 2)], Go.RX.SV.agg [Go.RX.SV.int (Go.IntKind.u8) (Go.RX.E.var 0), Go.RX.SV.int (Go.IntKind.u8) (Go.RX.E.var 1)], Go.RX.SV.agg [Go.RX.SV.int (Go.IntKind.u8) (Go.RX.E.var 2), Go.RX.SV.int (Go.IntKind.u8) (Go.RX.E.var 3)]])) (hp := []) (cnt := { i := 4, a := 3 }) (ρ := { iv := [(d0 : Int), (d1 : Int), (d2 : Int), (d3 : Int)], av := [A0, A1, A2] }) okT okFT okM Try.func9 (by constructor <;> rfl) run_law (vc_law Try.prog (fun r _ => r = .bool true) d0 d1 d2 d3 A0 A1 A2 _) ?_
  unfold st_law
  intros
  refine ⟨_, media_meets A0 A1 A2 I O N d0 d1 d2 d3 h0 h1 h2 hI hO hN e0 e1 e2 e3, ?_⟩
  rintro x hs ⟨A3, rfl, rfl, hA3⟩
  refine ⟨A3, rfl, rfl, _, rmedia_meets A0 A1 A2 I O N d0 d1 d2 d3 h0 h1 h2 hI hO hN e0 e1 e2 e3, ?_⟩
  rintro x hs ⟨A4, rfl, rfl, hA4⟩
  have hq := all_same hA3 hA4
  refine ⟨A4, rfl, rfl, fun _ => ?_, fun h => absurd (fun j hj => (hA3 j hj).trans (hA4 j hj).symm) h⟩
  simp only [hq, if_true]
  refine ⟨_, media_meets A0 A2 A1 I N O d2 d3 d0 d1 h0 h2 h1 hI hN hO e2 e3 e0 e1, ?_⟩
  rintro x hs ⟨A5, rfl, rfl, hA5⟩
  refine ⟨A5, rfl, rfl, _, rmedia_meets A0 A2 A1 I N O d2 d3 d0 d1 h0 h2 h1 hI hN hO e2 e3 e0 e1, ?_⟩
  rintro x hs ⟨A6, rfl, rfl, hA6⟩
  refine ⟨A6, rfl, rfl, fun _ => ?_, fun h => absurd (fun j hj => (hA5 j hj).trans (hA6 j hj).symm) h⟩
  refine ⟨_, works_meets, ?_⟩
  rintro x hs ⟨rfl, rfl⟩
  exact ⟨rfl, rfl, trivial⟩
end Go.RX.Md

namespace Go.Proofs.Ytphemenngjkfbaa.callMedia
open Go.ChangeShapes Go.WideShapes Go.ChangeAt Go.RowKit

theorem own : ownKnob Try.prog.godebug = none := by kernel_rfl
theorem laidOut : laidOutB Try.prog = true := by kernel_rfl

abbrev lay (n : Nat) : List (RX.CellK × Nat) := [(some .u8, n)]
theorem byte {n j : Nat} {F : Nat → Int} (h : ∀ (j : Nat) k, (RX.layCells (lay n))[j]? = some k → RX.cellWf k (F j)) (hj : j < n) : 0 ≤ F j ∧ F j < 256 := by
  have := h j (some .u8) (by simp [RX.layCells, hj])
  simp [RX.cellWf, Lit.wf, IntKind.min, IntKind.max, IntKind.signed, IntKind.bits] at this
  omega

theorem walk (F0 F1 F2 F3 F4 : Nat → Int) (w : World) (w0 : ∀ (j : Nat) k, (RX.layCells (lay 16))[j]? = some k → RX.cellWf k (F0 j)) (w1 : ∀ (j : Nat) k, (RX.layCells (lay 32))[j]? = some k → RX.cellWf k (F1 j))
    (w2 : ∀ (j : Nat) k, (RX.layCells (lay 32))[j]? = some k → RX.cellWf k (F2 j)) (w3 : ∀ (j : Nat) k, (RX.layCells (lay 2))[j]? = some k → RX.cellWf k (F3 j)) (w4 : ∀ (j : Nat) k, (RX.layCells (lay 2))[j]? = some k → RX.cellWf k (F4 j)) :
    Calls Try.prog 9 #[.agg (RX.layV (lay 16) F0).toArray, .agg (RX.layV (lay 32) F1).toArray, .agg (RX.layV (lay 32) F2).toArray, .agg (RX.layV (lay 2) F3).toArray, .agg (RX.layV (lay 2) F4).toArray] w
      fun e w' => e = .returned (.bool true) ∧ Below w.heap.size w w' := by
  have nat : ∀ {n : Nat} {F : Nat → Int}, (∀ (j : Nat) k, (RX.layCells (lay n))[j]? = some k → RX.cellWf k (F j)) → ∀ j, j < n → F j = (((F j).toNat : Nat) : Int) ∧ (F j).toNat < 256 := by
    intro n F h j hj
    have := byte h hj
    omega
  have two : ∀ {F : Nat → Int}, (∀ (j : Nat) k, (RX.layCells (lay 2))[j]? = some k → RX.cellWf k (F j)) → (RX.layV (lay 2) F).toArray = #[.int .u8 (((F 0).toNat : Nat) : Int), .int .u8 (((F 1).toNat : Nat) : Int)] := by
    intro F h
    rw [← (nat h 0 (by decide)).1, ← (nat h 1 (by decide)).1]
    rfl
  rw [two w3, two w4]
  have := RX.Md.law_meets F0 F1 F2 (fun j => (F0 j).toNat) (fun j => (F1 j).toNat) (fun j => (F2 j).toNat) (F3 0).toNat (F3 1).toNat (F4 0).toNat (F4 1).toNat (fun j hj => (nat w0 j hj).1) (fun j hj => (nat w1 j hj).1) (fun j hj => (nat w2 j hj).1)
    (fun j hj => (nat w0 j hj).2) (fun j hj => (nat w1 j hj).2) (fun j hj => (nat w2 j hj).2) (nat w3 0 (by decide)).2 (nat w3 1 (by decide)).2 (nat w4 0 (by decide)).2 (nat w4 1 (by decide)).2
  exact this.law w (RX.owns_kept w)

set_option maxRecDepth 100000 in
theorem lifted (os : Os) (started : os.Started) (H : Type) (enc : TypeId × Value → H) :
    ReturnsInHanded {} Try.checked os 9 .any (Rows.callMediaSpec.pre6 enc Try.prog Try.f9 Rows.callMediaRow.domain false) (Rows.callMediaSpec.post enc Try.prog Try.f9 false true false false) := by
  refine returnsInHanded_of_change (C := Try.checked) own started (by kernel_rfl) Try.func9
    (ChangeSpec.witness6 (enc := enc) (C := Try.checked) false ⟨#[], #[.agg (RX.layV (lay 16) fun _ => 0).toArray, .agg (RX.layV (lay 32) fun _ => 0).toArray, .agg (RX.layV (lay 32) fun _ => 0).toArray, .agg (RX.layV (lay 2) fun _ => 0).toArray, .agg (RX.layV (lay 2) fun _ => 0).toArray], []⟩ 8 (by kernel_rfl) (by kernel_rfl) (by kernel_rfl) (by kernel_rfl)) ?_
  intro W base args ds gs before hval0 hW hcnd _
  have hval : ∀ (j : Nat) t v, Try.f9.params[j]? = some t → args[j]? = some v → Value.okWide Try.prog W .any base t v := hval0
  have hW' := hW
  obtain ⟨p, q, hA0, hV, rfl, hfz, hnd⟩ := hW
  have hA : DataW.TrodAll enc Try.prog W 0 (fun _ => true) true Try.f9.params.toList args.toList ds p := hA0
  rw [Try.params9] at hA hval
  obtain ⟨v0, vs0, d0, ds0, p0, q0, hargs, rfl, rfl, h0, r0⟩ := trodAll_cons hA
  obtain ⟨v1, vs1, d1, ds1, p1, q1, rfl, rfl, rfl, h1, r1⟩ := trodAll_cons r0
  obtain ⟨v2, vs2, d2, ds2, p2, q2, rfl, rfl, rfl, h2, r2⟩ := trodAll_cons r1
  obtain ⟨v3, vs3, d3, ds3, p3, q3, rfl, rfl, rfl, h3, r3⟩ := trodAll_cons r2
  obtain ⟨v4, vs4, d4, ds4, p4, q4, rfl, rfl, rfl, h4, r4⟩ := trodAll_cons r3
  obtain ⟨rfl, rfl, rfl⟩ := trodAll_nil r4
  obtain rfl : args = #[v0, v1, v2, v3, v4] := by cases args; simp_all
  obtain ⟨rfl, rfl⟩ := trodVars_none hV
  obtain ⟨F0, rfl, w0⟩ := RX.open_flat (n := 3) (l := lay 16) (by kernel_rfl) (by kernel_rfl) (by kernel_rfl) (hval 0 72 v0 rfl rfl) h0
  obtain ⟨F1, rfl, w1⟩ := RX.open_flat (n := 3) (l := lay 32) (by kernel_rfl) (by kernel_rfl) (by kernel_rfl) (hval 1 74 v1 rfl rfl) h1
  obtain ⟨F2, rfl, w2⟩ := RX.open_flat (n := 3) (l := lay 32) (by kernel_rfl) (by kernel_rfl) (by kernel_rfl) (hval 2 74 v2 rfl rfl) h2
  obtain ⟨F3, rfl, w3⟩ := RX.open_flat (n := 3) (l := lay 2) (by kernel_rfl) (by kernel_rfl) (by kernel_rfl) (hval 3 30 v3 rfl rfl) h3
  obtain ⟨F4, rfl, w4⟩ := RX.open_flat (n := 3) (l := lay 2) (by kernel_rfl) (by kernel_rfl) (by kernel_rfl) (hval 4 30 v4 rfl rfl) h4
  have lt : ∀ {t v d p}, DataW.Trod enc Try.prog W 0 (fun _ => true) true t v d p → ∀ x ∈ p, x.block < W.heap.size := fun k => by obtain ⟨m, hm⟩ := k; exact DataW.trod_lt m _ _ _ hm
  clear hA0 hval0
  refine (walk F0 F1 F2 F3 F4 W w0 w1 w2 w3 w4).mono fun e W' ⟨he, bel⟩ => ?_
  subst he
  exact ⟨_, rfl, _, _, _, [], _, [], hW', trodAll_mk1 (shut_bool Try.underlying4 _), (trodAll_cons_mk (Below.trod laidOut (by kernel_rfl) (of_decide_eq_true (by kernel_rfl)) h0 bel (lt h0)) (trodAll_cons_mk (Below.trod laidOut (by kernel_rfl) (of_decide_eq_true (by kernel_rfl)) h1 bel (lt h1)) (trodAll_cons_mk (Below.trod laidOut (by kernel_rfl) (of_decide_eq_true (by kernel_rfl)) h2 bel (lt h2)) (trodAll_cons_mk (Below.trod laidOut (by kernel_rfl) (of_decide_eq_true (by kernel_rfl)) h3 bel (lt h3)) (trodAll_cons_mk (Below.trod laidOut (by kernel_rfl) (of_decide_eq_true (by kernel_rfl)) h4 bel (lt h4)) trodAll_mk0))))), rfl, bel.frame _, fun h => by cases h⟩

theorem over : Rows.callMediaRow.holds Try.pinned (OpenSpec.ofChange Rows.callMediaSpec) :=
  OpenClaim.holds_of_wide 9 Try.f9 rfl rfl rfl rfl rfl rfl rfl ⟨rfl, rfl, rfl, rfl, rfl⟩ rfl rfl rfl rfl rfl (by kernel_rfl) Try.func9 (by kernel_rfl)
    (of_decide_eq_true (by kernel_rfl)) (by unfold Func.isWrapper; first | (rw [if_pos (by decide +kernel)]; kernel_rfl) | (rw [if_neg (by decide +kernel)]; exact ⟨rfl, rfl⟩))
    (fun os started H enc _ => lifted os started H enc)

theorem proved : Rows.CallMediaSaid := over
#print axioms proved
end Go.Proofs.Ytphemenngjkfbaa.callMedia
