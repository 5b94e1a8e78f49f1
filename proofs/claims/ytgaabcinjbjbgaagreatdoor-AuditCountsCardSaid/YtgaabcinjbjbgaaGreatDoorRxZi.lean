/- A reflective symbolic executor, part 32: formulas that hold at sight, with ways that meet again. -/
import Derived.Test.YtgaabcinjbjbgaaGreatDoorRyZ
namespace Go.RX

def E.closed (e : E) : Bool := e.sc {}
/-- Which slice, which block a fresh name of a pattern is. -/
def pickVq (i : Nat) : List Eq2 → Option Nat
  | [] => none
  | .v i' j :: r => if i' = i then some j else pickVq i r
  | _ :: r => pickVq i r
def pickBq (i : Nat) : List Eq2 → Option Nat
  | [] => none
  | .bl i' j :: r => if i' = i then some j else pickBq i r
  | _ :: r => pickBq i r
/-- An equation holds, whatever the names stand for. -/
def eqOk (c0 inc : Cnt) (all : List Eq2) : Eq2 → Bool
  | .e a b => a.closed && b.closed && a.den env0 0 == b.den env0 0
  | .a n a b => n.closed && a.closed && b.closed && (List.range (n.den env0 0).toNat).all fun j => a.den env0 j == b.den env0 j
  | .b a b => a.sc {} && b.sc {} && a.den env0 == b.den env0
  | .v i j => Nat.ble c0.v i && Nat.blt i (c0.v + inc.v) && pickVq i all == some j
  | .bl i j => Nat.ble c0.b i && Nat.blt i (c0.b + inc.b) && pickBq i all == some j
  | _ => false
def Cnt.only (c : Cnt) : Bool := c.i == 0 && c.a == 0 && c.bo == 0 && c.p == 0 && c.r == 0
def meetOk (cnt c0 inc : Cnt) (eqs : List Eq2) : Bool :=
  inc.only && Nat.ble c0.b cnt.b && Nat.ble c0.v cnt.v && eqs.all (eqOk c0 inc eqs)
/-- A formula that holds at sight; ups: joins whose ways may meet however they come. -/
def F.triv2 (ups : List Nat) (cnt : Cnt) : F → Bool
  | .vc b r => b.sure && r.triv2 ups cnt
  | .fork c t e => match c.surely with
    | some true => t.triv2 ups cnt
    | some false => e.triv2 ups cnt
    | none => t.triv2 ups cnt && e.triv2 ups cnt
  | .ret (.bool b) _ => b.sure
  | .allB r => r.triv2 ups { cnt with b := cnt.b + 1 }
  | .allV r => r.triv2 ups { cnt with v := cnt.v + 1 }
  | .nilV r => r.triv2 ups { cnt with v := cnt.v + 1 }
  | .allRec true r => r.triv2 ups { cnt with b := cnt.b + 2, r := cnt.r + 1 }
  | .allRec false r => r.triv2 ups { cnt with b := cnt.b + 1, r := cnt.r + 1 }
  | .both a b => a.triv2 ups cnt && b.triv2 ups cnt
  | .join up inc body r => body.triv2 (up :: ups) cnt && r.triv2 ups (cnt.add inc)
  | .meet up c0 inc eqs => ups.contains up && meetOk cnt c0 inc eqs
  | _ => false

theorem closedE_den {e : E} (h : e.closed = true) (ρ : Env) (j : Nat) : e.den ρ j = e.den env0 j := by
  have h1 : (BE.eq (.sel e (.lit j)) (.lit 0)).sc {} = true := by simp [BE.sc, E.sc]; exact h
  have e1 : Agree {} ρ { ρ with iv := [], av := [], bo := [], bv := [], vv := [], pv := [], lr := [] } := by
    constructor <;> first | rfl | (intro i hi; simp at hi)
  have e2 : Agree {} env0 { env0 with va := ρ.va } → True := fun _ => trivial
  clear e2 h1
  induction e generalizing j with
  | lit n => rfl
  | var i => simp [E.closed, E.sc] at h
  | avar i => simp [E.closed, E.sc] at h
  | sel a i iha ihi => simp only [E.closed, E.sc, Bool.and_eq_true] at h; simp only [E.den, iha h.1, ihi h.2]
  | bin o k a b iha ihb => simp only [E.closed, E.sc, Bool.and_eq_true] at h; simp only [E.den, iha h.1, ihb h.2]
  | wrap k a ih => simp only [E.closed, E.sc] at h; simp only [E.den, ih h]
  | upd a i v iha ihi ihv => simp only [E.closed, E.sc, Bool.and_eq_true] at h; simp only [E.den, iha h.1.1, ihi h.1.2, ihv h.2]
  | shift a o iha iho => simp only [E.closed, E.sc, Bool.and_eq_true] at h; simp only [E.den, iha h.1, iho h.2]
  | spl a o n b iha iho ihn ihb => simp only [E.closed, E.sc, Bool.and_eq_true] at h; simp only [E.den, iha h.1.1.1, iho h.1.1.2, ihn h.1.2, ihb h.2]
  | kc n a ih => simp only [E.closed, E.sc] at h; simp only [E.den]; rw [List.map_congr_left fun i _ => ih h i]
  | blk b => simp [E.closed, E.sc] at h
  | rowl l => rfl
  | at2 a i iha ihi => simp only [E.closed, E.sc, Bool.and_eq_true] at h; simp only [E.den, at2F, iha h.1, ihi h.2]
  | put2 a i s iha ihi ihs => simp only [E.closed, E.sc, Bool.and_eq_true] at h; simp only [E.den, put2F, iha h.1.1, ihi h.1.2, ihs h.2]
  | sby s ih => simp only [E.closed, E.sc] at h; simp only [E.den, sbyF, ih h]

def wit (ρ : Env) (c0 inc : Cnt) (eqs : List Eq2) : Ext :=
  ⟨(List.range inc.b).map fun k => ρ.bv.getD ((pickBq (c0.b + k) eqs).getD 0) 0, (List.range inc.v).map fun k => ρ.vv.getD ((pickVq (c0.v + k) eqs).getD 0) V1.nil, [], [], [], [], []⟩
theorem take_getD {α : Type} (l : List α) (c n i : Nat) (d : α) (f : Nat → α) (hc : c ≤ l.length) (h1 : c ≤ i) (h2 : i < c + n) : (l.take c ++ (List.range n).map f).getD i d = f (i - c) := by
  rw [List.getD_eq_getElem?_getD, List.getElem?_append_right (by simp; omega)]
  have : (l.take c).length = c := by simp; omega
  rw [this, List.getElem?_map, List.getElem?_range (by omega)]
  rfl
theorem eqOk_sound {ρ : Env} {cnt c0 inc : Cnt} {all : List Eq2} (hl : Lens ρ cnt) (hb : c0.b ≤ cnt.b) (hv : c0.v ≤ cnt.v) {q : Eq2} (h : eqOk c0 inc all q = true) : q.holds ((ρ.take c0).ext (wit ρ c0 inc all)) ρ := by
  cases q with
  | e a b =>
    simp only [eqOk, Bool.and_eq_true, beq_iff_eq] at h
    simp only [Eq2.holds, closedE_den h.1.1, closedE_den h.1.2, h.2]
  | a n a b =>
    simp only [eqOk, Bool.and_eq_true] at h
    obtain ⟨⟨⟨h1, h2⟩, h3⟩, h4⟩ := h
    simp only [Eq2.holds, closedE_den h1, closedE_den h2, closedE_den h3]
    intro j hj
    simpa using List.all_eq_true.1 h4 j (List.mem_range.2 hj)
  | b a b =>
    simp only [eqOk, Bool.and_eq_true, beq_iff_eq] at h
    simp only [Eq2.holds, closed_den h.1.1, closed_den h.1.2, h.2]
  | v i j =>
    simp only [eqOk, Bool.and_eq_true, Nat.ble_eq, Nat.blt_eq, beq_iff_eq] at h
    simp only [Eq2.holds, Env.ext, Env.take, wit]
    rw [take_getD _ _ _ _ _ _ (by rw [hl.v]; exact hv) h.1.1 h.1.2, show c0.v + (i - c0.v) = i by omega, h.2]
    rfl
  | bl i j =>
    simp only [eqOk, Bool.and_eq_true, Nat.ble_eq, Nat.blt_eq, beq_iff_eq] at h
    simp only [Eq2.holds, Env.ext, Env.take, wit]
    rw [take_getD _ _ _ _ _ _ (by rw [hl.b]; exact hb) h.1.1 h.1.2, show c0.b + (i - c0.b) = i by omega, h.2]
    rfl
  | af _ _ => simp [eqOk] at h
  | p _ _ => simp [eqOk] at h
  | rc _ _ => simp [eqOk] at h

theorem F.triv2_sound {P : Program} {f : F} (ups : List Nat) (cnt : Cnt) (ρ : Env) (L : Nat → LC) (hl : Lens ρ cnt) (hL : ∀ u ∈ ups, (L u).I = fun _ => True) (h : f.triv2 ups cnt = true) : VC P (fun v _ => v = .bool true) f ρ L := by
  induction f generalizing ups cnt ρ L with
  | vc b r ih =>
    simp only [F.triv2, Bool.and_eq_true] at h
    exact ⟨(BE.den_iff ρ b).1 (sure_prop h.1 ρ), fun _ => ih ups cnt ρ L hl hL h.2⟩
  | fork c t e iht ihe =>
    simp only [F.triv2] at h
    split at h
    · rename_i hc
      unfold BE.surely at hc
      split at hc
      · rename_i hs
        simp only [Option.some.injEq] at hc
        exact ⟨fun _ => iht ups cnt ρ L hl hL h, fun hn => absurd ((BE.den_iff ρ c).1 (by rw [closed_den hs]; exact hc)) hn⟩
      · cases hc
    · rename_i hc
      unfold BE.surely at hc
      split at hc
      · rename_i hs
        simp only [Option.some.injEq] at hc
        refine ⟨fun hn => ?_, fun _ => ihe ups cnt ρ L hl hL h⟩
        have := (BE.den_iff ρ c).2 hn
        rw [closed_den hs, hc] at this
        cases this
      · cases hc
    · simp only [Bool.and_eq_true] at h
      exact ⟨fun _ => iht ups cnt ρ L hl hL h.1, fun _ => ihe ups cnt ρ L hl hL h.2⟩
  | ret v hp =>
    cases v with
    | bool b => simp only [F.triv2] at h; simp only [VC, SV.val, sure_prop h ρ]
    | _ => simp [F.triv2] at h
  | allB r ih => exact fun b => ih ups _ _ L (hl.addB b) hL h
  | allV r ih => exact fun v => ih ups _ _ L (hl.addV v) hL h
  | nilV r ih => exact ih ups _ _ L (hl.addV _) hL h
  | allRec b r ih => cases b with
    | true => exact fun d l c => ih ups _ _ L ⟨by simp [Env.ext, hl.b], by simp [Env.ext, hl.v], by simp [Env.ext, hl.i], by simp [Env.ext, hl.a], by simp [Env.ext, hl.bo], by simp [Env.ext, hl.p], by simp [Env.ext, hl.r]⟩ hL h
    | false => exact fun l c => ih ups _ _ L ⟨by simp [Env.ext, hl.b], by simp [Env.ext, hl.v], by simp [Env.ext, hl.i], by simp [Env.ext, hl.a], by simp [Env.ext, hl.bo], by simp [Env.ext, hl.p], by simp [Env.ext, hl.r]⟩ hL h
  | fail => simp [F.triv2] at h
  | call => simp [F.triv2] at h
  | loop => simp [F.triv2] at h
  | back => simp [F.triv2] at h
  | ghost => simp [F.triv2] at h
  | both a b iha ihb =>
    simp only [F.triv2, Bool.and_eq_true] at h
    exact ⟨iha ups cnt ρ L hl hL h.1, ihb ups cnt ρ L hl hL h.2⟩
  | join up inc body r ihb ihr =>
    simp only [F.triv2, Bool.and_eq_true] at h
    refine ⟨fun _ => True, ihb (up :: ups) cnt ρ _ hl ?_ h.1, ?_⟩
    · intro u hu
      unfold setL
      split
      · rfl
      · rcases List.mem_cons.1 hu with rfl | hu
        · rename_i hne; exact absurd rfl hne
        · exact hL u hu
    · rw [allExt_iff]
      intro e he _
      exact ihr ups _ _ L (hl.ext he) hL h.2
  | meet up c0 inc eqs =>
    simp only [F.triv2, meetOk, Bool.and_eq_true, Nat.ble_eq] at h
    obtain ⟨h1, ⟨⟨h2, h3⟩, h4⟩, h5⟩ := h
    have hI := hL up (by simpa using h1)
    simp only [VC]
    rw [exExt_iff]
    simp only [Cnt.only, Bool.and_eq_true, beq_iff_eq] at h2
    refine ⟨wit ρ c0 inc eqs, ⟨by simp [wit], by simp [wit], by simp [wit, h2.1.1.1.1], by simp [wit, h2.1.1.1.2], by simp [wit, h2.1.1.2], by simp [wit, h2.1.2], by simp [wit, h2.2]⟩, ?_⟩
    rw [Eqs_iff]
    refine ⟨fun q hq => eqOk_sound hl h3 h4 (List.all_eq_true.1 h5 q hq), ?_⟩
    rw [hI]
    trivial

theorem law0' {P : Program} {C : Ctx} (hT : checkT P C.T = true) (hFT : FTOk P C.FT) (hm : P.follows .mixedOrders = true) {f : Nat} {fd : Func} (hf : P.funcs[f]? = some fd)
    (h : (runF C f [] [] {} fd).triv2 [] {} = true) (hPu : PureOk P C) : Meets P f [] [] (fun v hs => v = .bool true ∧ hs = []) := by
  have := Meets.of_run (Post := fun v _ => v = .bool true) (ρ := env0) (args := []) (hp := []) (cnt := {}) hT hFT hm hf (by constructor <;> rfl) (F.triv2_sound [] {} env0 _ (by constructor <;> rfl) (fun _ h => by cases h) h) hPu
  exact this.post fun v hs h => ⟨[], Ent.sub (List.nil_sublist _), h, rfl⟩
end Go.RX
