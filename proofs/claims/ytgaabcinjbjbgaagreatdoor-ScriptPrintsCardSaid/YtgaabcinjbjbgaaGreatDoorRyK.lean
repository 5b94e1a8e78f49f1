/- A reflective symbolic executor: calls that look at memory alone. -/
import Derived.Test.YtgaabcinjbjbgaaGreatDoorRyZ

namespace Go.RX

def E.closed (e : E) : Bool := e.sc {}
/-- Which slice, which block a fresh name of a pattern is. -/
def pickVq (i : Nat) : List Eq2 → Option Nat
  | [] => none
  | .v i' j :: r => if i' = i then some j else pickVq i r
  | _ :: r => pickVq i r
def pickBq (i : Nat) : List Eq2 → Option Nat
  | [] => none
  | .bl i' j :: r => if i' = i then some j else pickBq i r
  | _ :: r => pickBq i r
/-- An equation holds, whatever the names stand for. -/
def eqOk (c0 inc : Cnt) (all : List Eq2) : Eq2 → Bool
  | .e a b => a.closed && b.closed && a.den env0 0 == b.den env0 0
  | .a n a b => n.closed && a.closed && b.closed && (List.range (n.den env0 0).toNat).all fun j => a.den env0 j == b.den env0 j
  | .b a b => a.sc {} && b.sc {} && a.den env0 == b.den env0
  | .v i j => Nat.ble c0.v i && Nat.blt i (c0.v + inc.v) && pickVq i all == some j
  | .bl i j => Nat.ble c0.b i && Nat.blt i (c0.b + inc.b) && pickBq i all == some j
  | _ => false
def Cnt.only (c : Cnt) : Bool := c.i == 0 && c.a == 0 && c.bo == 0 && c.p == 0 && c.r == 0
def meetOk (cnt c0 inc : Cnt) (eqs : List Eq2) : Bool :=
  inc.only && Nat.ble c0.b cnt.b && Nat.ble c0.v cnt.v && eqs.all (eqOk c0 inc eqs)
/-- A formula that holds at sight; ups: joins whose ways may meet however they come. -/
def F.triv2 (ups : List Nat) (cnt : Cnt) : F → Bool
  | .vc b r => b.sure && r.triv2 ups cnt
  | .fork c t e => match c.surely with
    | some true => t.triv2 ups cnt
    | some false => e.triv2 ups cnt
    | none => t.triv2 ups cnt && e.triv2 ups cnt
  | .ret (.bool b) _ => b.sure
  | .allB r => r.triv2 ups { cnt with b := cnt.b + 1 }
  | .allV r => r.triv2 ups { cnt with v := cnt.v + 1 }
  | .nilV r => r.triv2 ups { cnt with v := cnt.v + 1 }
  | .allRec true r => r.triv2 ups { cnt with b := cnt.b + 2, r := cnt.r + 1 }
  | .allRec false r => r.triv2 ups { cnt with b := cnt.b + 1, r := cnt.r + 1 }
  | .both a b => a.triv2 ups cnt && b.triv2 ups cnt
  | .join up inc body r => body.triv2 (up :: ups) cnt && r.triv2 ups (cnt.add inc)
  | .meet up c0 inc eqs => ups.contains up && meetOk cnt c0 inc eqs
  | _ => false

theorem closedE_den {e : E} (h : e.closed = true) (ρ : Env) (j : Nat) : e.den ρ j = e.den env0 j := by
  have h1 : (BE.eq (.sel e (.lit j)) (.lit 0)).sc {} = true := by simp [BE.sc, E.sc]; exact h
  have e1 : Agree {} ρ { ρ with iv := [], av := [], bo := [], bv := [], vv := [], pv := [], lr := [] } := by
    constructor <;> first | rfl | (intro i hi; simp at hi)
  have e2 : Agree {} env0 { env0 with va := ρ.va } → True := fun _ => trivial
  clear e2 h1
  induction e generalizing j with
  | lit n => rfl
  | var i => simp [E.closed, E.sc] at h
  | avar i => simp [E.closed, E.sc] at h
  | sel a i iha ihi => simp only [E.closed, E.sc, Bool.and_eq_true] at h; simp only [E.den, iha h.1, ihi h.2]
  | bin o k a b iha ihb => simp only [E.closed, E.sc, Bool.and_eq_true] at h; simp only [E.den, iha h.1, ihb h.2]
  | wrap k a ih => simp only [E.closed, E.sc] at h; simp only [E.den, ih h]
  | upd a i v iha ihi ihv => simp only [E.closed, E.sc, Bool.and_eq_true] at h; simp only [E.den, iha h.1.1, ihi h.1.2, ihv h.2]
  | shift a o iha iho => simp only [E.closed, E.sc, Bool.and_eq_true] at h; simp only [E.den, iha h.1, iho h.2]
  | spl a o n b iha iho ihn ihb => simp only [E.closed, E.sc, Bool.and_eq_true] at h; simp only [E.den, iha h.1.1.1, iho h.1.1.2, ihn h.1.2, ihb h.2]
  | kc n a ih => simp only [E.closed, E.sc] at h; simp only [E.den]; rw [List.map_congr_left fun i _ => ih h i]
  | blk b => simp [E.closed, E.sc] at h
  | rowl l => rfl
  | at2 a i iha ihi => simp only [E.closed, E.sc, Bool.and_eq_true] at h; simp only [E.den, at2F, iha h.1, ihi h.2]
  | put2 a i s iha ihi ihs => simp only [E.closed, E.sc, Bool.and_eq_true] at h; simp only [E.den, put2F, iha h.1.1, ihi h.1.2, ihs h.2]
  | sby s ih => simp only [E.closed, E.sc] at h; simp only [E.den, sbyF, ih h]

def wit (ρ : Env) (c0 inc : Cnt) (eqs : List Eq2) : Ext :=
  ⟨(List.range inc.b).map fun k => ρ.bv.getD ((pickBq (c0.b + k) eqs).getD 0) 0, (List.range inc.v).map fun k => ρ.vv.getD ((pickVq (c0.v + k) eqs).getD 0) V1.nil, [], [], [], [], []⟩
theorem take_getD {α : Type} (l : List α) (c n i : Nat) (d : α) (f : Nat → α) (hc : c ≤ l.length) (h1 : c ≤ i) (h2 : i < c + n) : (l.take c ++ (List.range n).map f).getD i d = f (i - c) := by
  rw [List.getD_eq_getElem?_getD, List.getElem?_append_right (by simp; omega)]
  have : (l.take c).length = c := by simp; omega
  rw [this, List.getElem?_map, List.getElem?_range (by omega)]
  rfl
theorem eqOk_sound {ρ : Env} {cnt c0 inc : Cnt} {all : List Eq2} (hl : Lens ρ cnt) (hb : c0.b ≤ cnt.b) (hv : c0.v ≤ cnt.v) {q : Eq2} (h : eqOk c0 inc all q = true) : q.holds ((ρ.take c0).ext (wit ρ c0 inc all)) ρ := by
  cases q with
  | e a b =>
    simp only [eqOk, Bool.and_eq_true, beq_iff_eq] at h
    simp only [Eq2.holds, closedE_den h.1.1, closedE_den h.1.2, h.2]
  | a n a b =>
    simp only [eqOk, Bool.and_eq_true] at h
    obtain ⟨⟨⟨h1, h2⟩, h3⟩, h4⟩ := h
    simp only [Eq2.holds, closedE_den h1, closedE_den h2, closedE_den h3]
    intro j hj
    simpa using List.all_eq_true.1 h4 j (List.mem_range.2 hj)
  | b a b =>
    simp only [eqOk, Bool.and_eq_true, beq_iff_eq] at h
    simp only [Eq2.holds, closed_den h.1.1, closed_den h.1.2, h.2]
  | v i j =>
    simp only [eqOk, Bool.and_eq_true, Nat.ble_eq, Nat.blt_eq, beq_iff_eq] at h
    simp only [Eq2.holds, Env.ext, Env.take, wit]
    rw [take_getD _ _ _ _ _ _ (by rw [hl.v]; exact hv) h.1.1 h.1.2, show c0.v + (i - c0.v) = i by omega, h.2]
    rfl
  | bl i j =>
    simp only [eqOk, Bool.and_eq_true, Nat.ble_eq, Nat.blt_eq, beq_iff_eq] at h
    simp only [Eq2.holds, Env.ext, Env.take, wit]
    rw [take_getD _ _ _ _ _ _ (by rw [hl.b]; exact hb) h.1.1 h.1.2, show c0.b + (i - c0.b) = i by omega, h.2]
    rfl
  | af _ _ => simp [eqOk] at h
  | p _ _ => simp [eqOk] at h
  | rc _ _ => simp [eqOk] at h

theorem F.triv2_sound {P : Program} {f : F} (ups : List Nat) (cnt : Cnt) (ρ : Env) (L : Nat → LC) (hl : Lens ρ cnt) (hL : ∀ u ∈ ups, (L u).I = fun _ => True) (h : f.triv2 ups cnt = true) : VC P (fun v _ => v = .bool true) f ρ L := by
  induction f generalizing ups cnt ρ L with
  | vc b r ih =>
    simp only [F.triv2, Bool.and_eq_true] at h
    exact ⟨(BE.den_iff ρ b).1 (sure_prop h.1 ρ), fun _ => ih ups cnt ρ L hl hL h.2⟩
  | fork c t e iht ihe =>
    simp only [F.triv2] at h
    split at h
    · rename_i hc
      unfold BE.surely at hc
      split at hc
      · rename_i hs
        simp only [Option.some.injEq] at hc
        exact ⟨fun _ => iht ups cnt ρ L hl hL h, fun hn => absurd ((BE.den_iff ρ c).1 (by rw [closed_den hs]; exact hc)) hn⟩
      · cases hc
    · rename_i hc
      unfold BE.surely at hc
      split at hc
      · rename_i hs
        simp only [Option.some.injEq] at hc
        refine ⟨fun hn => ?_, fun _ => ihe ups cnt ρ L hl hL h⟩
        have := (BE.den_iff ρ c).2 hn
        rw [closed_den hs, hc] at this
        cases this
      · cases hc
    · simp only [Bool.and_eq_true] at h
      exact ⟨fun _ => iht ups cnt ρ L hl hL h.1, fun _ => ihe ups cnt ρ L hl hL h.2⟩
  | ret v hp =>
    cases v with
    | bool b => simp only [F.triv2] at h; simp only [VC, SV.val, sure_prop h ρ]
    | _ => simp [F.triv2] at h
  | allB r ih => exact fun b => ih ups _ _ L (hl.addB b) hL h
  | allV r ih => exact fun v => ih ups _ _ L (hl.addV v) hL h
  | nilV r ih => exact ih ups _ _ L (hl.addV _) hL h
  | allRec b r ih => cases b with
    | true => exact fun d l c => ih ups _ _ L ⟨by simp [Env.ext, hl.b], by simp [Env.ext, hl.v], by simp [Env.ext, hl.i], by simp [Env.ext, hl.a], by simp [Env.ext, hl.bo], by simp [Env.ext, hl.p], by simp [Env.ext, hl.r]⟩ hL h
    | false => exact fun l c => ih ups _ _ L ⟨by simp [Env.ext, hl.b], by simp [Env.ext, hl.v], by simp [Env.ext, hl.i], by simp [Env.ext, hl.a], by simp [Env.ext, hl.bo], by simp [Env.ext, hl.p], by simp [Env.ext, hl.r]⟩ hL h
  | fail => simp [F.triv2] at h
  | call => simp [F.triv2] at h
  | loop => simp [F.triv2] at h
  | back => simp [F.triv2] at h
  | ghost => simp [F.triv2] at h
  | both a b iha ihb =>
    simp only [F.triv2, Bool.and_eq_true] at h
    exact ⟨iha ups cnt ρ L hl hL h.1, ihb ups cnt ρ L hl hL h.2⟩
  | join up inc body r ihb ihr =>
    simp only [F.triv2, Bool.and_eq_true] at h
    refine ⟨fun _ => True, ihb (up :: ups) cnt ρ _ hl ?_ h.1, ?_⟩
    · intro u hu
      unfold setL
      split
      · rfl
      · rcases List.mem_cons.1 hu with rfl | hu
        · rename_i hne; exact absurd rfl hne
        · exact hL u hu
    · rw [allExt_iff]
      intro e he _
      exact ihr ups _ _ L (hl.ext he) hL h.2
  | meet up c0 inc eqs =>
    simp only [F.triv2, meetOk, Bool.and_eq_true, Nat.ble_eq] at h
    obtain ⟨h1, ⟨⟨h2, h3⟩, h4⟩, h5⟩ := h
    have hI := hL up (by simpa using h1)
    simp only [VC]
    rw [exExt_iff]
    simp only [Cnt.only, Bool.and_eq_true, beq_iff_eq] at h2
    refine ⟨wit ρ c0 inc eqs, ⟨by simp [wit], by simp [wit], by simp [wit, h2.1.1.1.1], by simp [wit, h2.1.1.1.2], by simp [wit, h2.1.1.2], by simp [wit, h2.1.2], by simp [wit, h2.2]⟩, ?_⟩
    rw [Eqs_iff]
    refine ⟨fun q hq => eqOk_sound hl h3 h4 (List.all_eq_true.1 h5 q hq), ?_⟩
    rw [hI]
    trivial

theorem law0' {P : Program} {C : Ctx} (hT : checkT P C.T = true) (hFT : FTOk P C.FT) (hm : P.follows .mixedOrders = true) {f : Nat} {fd : Func} (hf : P.funcs[f]? = some fd)
    (h : (runF C f [] [] {} fd).triv2 [] {} = true) (hPu : PureOk P C) : Meets P f [] [] (fun v hs => v = .bool true ∧ hs = []) := by
  have := Meets.of_run (Post := fun v _ => v = .bool true) (ρ := env0) (args := []) (hp := []) (cnt := {}) hT hFT hm hf (by constructor <;> rfl) (F.triv2_sound [] {} env0 _ (by constructor <;> rfl) (fun _ h => by cases h) h) hPu
  exact this.post fun v hs h => ⟨[], Ent.sub (List.nil_sublist _), h, rfl⟩
end Go.RX

namespace Go.RX

/-- One branch of a formula alone: at each join or fork of orders the path says which. -/
def F.chk (p : List Bool) (ups : List Nat) (cnt : Cnt) : F → Bool
  | .vc b r => b.sure && r.chk p ups cnt
  | .allB r => r.chk p ups { cnt with b := cnt.b + 1 }
  | .allV r => r.chk p ups { cnt with v := cnt.v + 1 }
  | .nilV r => r.chk p ups { cnt with v := cnt.v + 1 }
  | .allRec true r => r.chk p ups { cnt with b := cnt.b + 2, r := cnt.r + 1 }
  | .allRec false r => r.chk p ups { cnt with b := cnt.b + 1, r := cnt.r + 1 }
  | .both a b => match p with
    | [] => a.triv2 ups cnt && b.triv2 ups cnt
    | false :: p => a.chk p ups cnt
    | true :: p => b.chk p ups cnt
  | .join up inc body r => match p with
    | [] => body.triv2 (up :: ups) cnt && r.triv2 ups (cnt.add inc)
    | false :: p => body.chk p (up :: ups) cnt
    | true :: p => r.chk p ups (cnt.add inc)
  | f => f.triv2 ups cnt
theorem F.chk_nil (f : F) : ∀ (ups : List Nat) (cnt : Cnt), f.chk [] ups cnt = f.triv2 ups cnt := by
  induction f with
  | vc b r ih => intro u c; simp only [F.chk, F.triv2, ih]
  | allB r ih => intro u c; simp only [F.chk, F.triv2, ih]
  | allV r ih => intro u c; simp only [F.chk, F.triv2, ih]
  | nilV r ih => intro u c; simp only [F.chk, F.triv2, ih]
  | allRec b r ih => intro u c; cases b <;> simp only [F.chk, F.triv2, ih]
  | both a b iha ihb => intro u c; simp only [F.chk, F.triv2]
  | join up inc body r ihb ihr => intro u c; simp only [F.chk, F.triv2]
  | _ => intro u c; simp only [F.chk]
theorem F.chk_split (f : F) : ∀ (p : List Bool) (ups : List Nat) (cnt : Cnt), f.chk (p ++ [false]) ups cnt = true → f.chk (p ++ [true]) ups cnt = true → f.chk p ups cnt = true := by
  induction f with
  | vc b r ih =>
    intro p u c h1 h2
    simp only [F.chk, Bool.and_eq_true] at *
    exact ⟨h1.1, ih p u c h1.2 h2.2⟩
  | allB r ih => intro p u c h1 h2; simp only [F.chk] at *; exact ih p u _ h1 h2
  | allV r ih => intro p u c h1 h2; simp only [F.chk] at *; exact ih p u _ h1 h2
  | nilV r ih => intro p u c h1 h2; simp only [F.chk] at *; exact ih p u _ h1 h2
  | allRec b r ih => intro p u c h1 h2; cases b <;> (simp only [F.chk] at *; exact ih p u _ h1 h2)
  | both a b iha ihb =>
    intro p u c h1 h2
    cases p with
    | nil =>
      simp only [F.chk, List.nil_append, F.chk_nil] at *
      simp only [h1, h2, Bool.and_self]
    | cons x p =>
      cases x with
      | false => simp only [F.chk, List.cons_append] at *; exact iha p u c h1 h2
      | true => simp only [F.chk, List.cons_append] at *; exact ihb p u c h1 h2
  | join up inc body r ihb ihr =>
    intro p u c h1 h2
    cases p with
    | nil =>
      simp only [F.chk, List.nil_append, F.chk_nil] at *
      simp only [h1, h2, Bool.and_self]
    | cons x p =>
      cases x with
      | false => simp only [F.chk, List.cons_append] at *; exact ihb p _ c h1 h2
      | true => simp only [F.chk, List.cons_append] at *; exact ihr p u _ h1 h2
  | _ => intro p u c h1 h2; simp only [F.chk] at *; exact h1

/-- A closed run, branch by branch. -/
def runChk (C : Ctx) (f : Nat) (fd : Func) (p : List Bool) : Bool := (runF C f [] [] {} fd).chk p [] {}
theorem runChk_split {C : Ctx} {f : Nat} {fd : Func} {p : List Bool} (h1 : runChk C f fd (p ++ [false]) = true) (h2 : runChk C f fd (p ++ [true]) = true) : runChk C f fd p = true := F.chk_split _ p _ _ h1 h2
theorem law1 {P : Program} {C : Ctx} (hT : checkT P C.T = true) (hFT : FTOk P C.FT) (hm : P.follows .mixedOrders = true) {f : Nat} {fd : Func} (hf : P.funcs[f]? = some fd)
    (h : runChk C f fd [] = true) (hPu : PureOk P C) : Meets P f [] [] (fun v hs => v = .bool true ∧ hs = []) := by
  unfold runChk at h
  rw [F.chk_nil] at h
  exact law0' hT hFT hm hf h hPu

/-- The same values, at sight. -/
def SV.same : SV → SV → Bool
  | .int k (.lit n), .int k' (.lit m) => k == k' && n == m
  | .bool (.lit a), .bool (.lit b) => a == b
  | .str l, .str l' => l == l'
  | .agg a, .agg b => litSame (expandR a) (expandR b)
  | .tup [a, b], .tup [c, d] => SV.same a c && SV.same b d
  | _, _ => false
theorem SV.same_val (ρ : Env) : ∀ {u v : SV}, SV.same u v = true → u.val ρ = v.val ρ := by
  intro u v
  induction u, v using SV.same.induct with
  | case1 k n k' m => intro h; simp only [SV.same, Bool.and_eq_true, beq_iff_eq] at h; rw [h.1, h.2]
  | case2 a b => intro h; simp only [SV.same, beq_iff_eq] at h; rw [h]
  | case3 l l' => intro h; simp only [SV.same, beq_iff_eq] at h; rw [h]
  | case4 a b =>
    intro h
    simp only [SV.same] at h
    have := litSame_cells (ρ := ρ) h
    rw [expandR_cells, expandR_cells] at this
    simp only [SV.val, this]
  | case5 a b c d ih1 ih2 =>
    intro h
    simp only [SV.same, Bool.and_eq_true] at h
    simp only [SV.val, SV.vals, ih1 h.1, ih2 h.2]
  | case6 u v h1 h2 h3 h4 h5 =>
    intro h
    unfold SV.same at h
    split at h
    · exact (h1 _ _ _ _ rfl rfl).elim
    · exact (h2 _ _ rfl rfl).elim
    · exact (h3 _ _ rfl rfl).elim
    · exact (h4 _ _ rfl rfl).elim
    · exact (h5 _ _ _ _ rfl rfl).elim
    · cases h
/-- A formula that answers this, at sight. -/
def F.ans (v : SV) : F → Bool
  | .vc b r => b.sure && r.ans v
  | .fork c t e => match c.surely with
    | some true => t.ans v
    | some false => e.ans v
    | none => t.ans v && e.ans v
  | .ret u _ => u.same v
  | .allB r => r.ans v
  | .allV r => r.ans v
  | .nilV r => r.ans v
  | .allRec _ r => r.ans v
  | .both a b => a.ans v && b.ans v
  | _ => false
theorem F.ans_sound {P : Program} {f : F} {v : SV} (x : Value) (hx : ∀ ρ, v.val ρ = x) (ρ : Env) (L : Nat → LC) (h : f.ans v = true) : VC P (fun u _ => u = x) f ρ L := by
  induction f generalizing ρ L with
  | vc b r ih =>
    simp only [F.ans, Bool.and_eq_true] at h
    exact ⟨(BE.den_iff ρ b).1 (sure_prop h.1 ρ), fun _ => ih ρ L h.2⟩
  | fork c t e iht ihe =>
    simp only [F.ans] at h
    split at h
    · rename_i hc
      unfold BE.surely at hc
      split at hc
      · rename_i hs
        simp only [Option.some.injEq] at hc
        exact ⟨fun _ => iht ρ L h, fun hn => absurd ((BE.den_iff ρ c).1 (by rw [closed_den hs]; exact hc)) hn⟩
      · cases hc
    · rename_i hc
      unfold BE.surely at hc
      split at hc
      · rename_i hs
        simp only [Option.some.injEq] at hc
        refine ⟨fun hn => ?_, fun _ => ihe ρ L h⟩
        have := (BE.den_iff ρ c).2 hn
        rw [closed_den hs, hc] at this
        cases this
      · cases hc
    · simp only [Bool.and_eq_true] at h
      exact ⟨fun _ => iht ρ L h.1, fun _ => ihe ρ L h.2⟩
  | ret u hp => simp only [F.ans] at h; simp only [VC, SV.same_val ρ h, hx]
  | allB r ih => exact fun _ => ih _ L h
  | allV r ih => exact fun _ => ih _ L h
  | nilV r ih => exact ih _ L h
  | allRec b r ih => cases b with
    | true => exact fun _ _ _ => ih _ L h
    | false => exact fun _ _ => ih _ L h
  | fail => simp [F.ans] at h
  | call => simp [F.ans] at h
  | loop => simp [F.ans] at h
  | back => simp [F.ans] at h
  | join => simp [F.ans] at h
  | meet => simp [F.ans] at h
  | ghost => simp [F.ans] at h
  | both a b iha ihb =>
    simp only [F.ans, Bool.and_eq_true] at h
    exact ⟨iha ρ L h.1, ihb ρ L h.2⟩
theorem Meets.ans {P : Program} {C : Ctx} (hT : checkT P C.T = true) (hFT : FTOk P C.FT) (hm : P.follows .mixedOrders = true) {f : Nat} {fd : Func} (hf : P.funcs[f]? = some fd) {args : List SV} {v : SV} (x : Value) (hx : ∀ ρ, v.val ρ = x)
    (h : (runF C f args [] {} fd).ans v = true) (hPu : PureOk P C) : Meets P f (SV.vals env0 args) [] (fun u hs => u = x ∧ hs = []) := by
  have := Meets.of_run (Post := fun u _ => u = x) (ρ := env0) (args := args) (hp := []) (cnt := {}) hT hFT hm hf (by constructor <;> rfl) (F.ans_sound x hx env0 _ h) hPu
  exact this.post fun v hs h => ⟨[], Ent.sub (List.nil_sublist _), h, rfl⟩
end Go.RX

namespace Go.RX


/-- One string's row behind another's. -/
def catF (s t : Nat → Int) : Nat → Int := updF (splF s (Int.toNat (s 0 + 1)) (Int.toNat (t 0)) (shiftF t 1)) 0 (s 0 + t 0)
/-- So many bytes as a string's row. -/
def bytF (a : Nat → Int) (n : Int) : Nat → Int := updF (splF (fun _ => 0) 1 (Int.toNat n) a) 0 n
def strTabF (l : List (List Int)) : Nat → Int := (l.zipIdx.foldl (fun acc x => put2F acc x.2 (rowLF x.1)) fun _ => 0)

theorem strD_catF (s t : Nat → Int) (hs : 0 ≤ s 0) (ht : 0 ≤ t 0) : strD (catF s t) = strD s ++ strD t := by
  have := eCat_den { av := [s, t] } (.avar 0) (.avar 1) hs ht
  exact this
theorem catF0 (s t : Nat → Int) : catF s t 0 = s 0 + t 0 := rfl
theorem strD_bytF (a : Nat → Int) (n : Int) : strD (bytF a n) = (List.range n.toNat).map fun j => UInt8.ofNat (a j).toNat := by
  have := eBytes_den { av := [a], iv := [n] } (.avar 0) (.var 0)
  exact this
theorem bytF0 (a : Nat → Int) (n : Int) : bytF a n 0 = n := rfl
theorem len_of_strD {f : Nat → Int} {l : List UInt8} (h : strD f = l) (h0 : 0 ≤ f 0) : f 0 = l.length := by
  have := congrArg List.length h
  rw [strD_length] at this
  omega

/-- A call, of whose memory nothing is told behind it. -/
theorem Meets.of_bare {P : Program} {C : Ctx} (hT : checkT P C.T = true) (hFT : FTOk P C.FT) (hm : P.follows .mixedOrders = true) {f : Nat} {fd : Func} (hf : P.funcs[f]? = some fd) {args : List SV} {cnt : Cnt} {ρ : Env} (hl : Lens ρ cnt) (Q : Value → Prop)
    {g : F} {s : Prop} (e : runF C f args [] cnt fd = g) (hv : VC P (fun v _ => Q v) g ρ (fun _ => LC.none) = s) (hs : s) (hPu : PureOk P C := by exact PureOk.none rfl) : Meets P f (SV.vals ρ args) [] (fun v hs => Q v ∧ hs = []) := by
  subst e; subst hv
  have := Meets.of_run (Post := fun v _ => Q v) (hp := []) hT hFT hm hf hl hs hPu
  exact this.post fun v hs h => ⟨[], Ent.sub (List.nil_sublist _), h, rfl⟩
end Go.RX

namespace Go.RX

theorem Owns.dup {h : HP} {hs : List HP} {w : World} (hw : h.wr = false) (ho : Owns (h :: hs) w) : Owns (h :: h :: hs) w := by
  obtain ⟨S, hS⟩ := ho
  refine ⟨fun i => S (i - 1), ⟨?_, ?_⟩⟩
  · intro i x hx
    cases i with
    | zero =>
      simp at hx; subst hx
      exact hS.at_ 0 _ rfl
    | succ i => exact hS.at_ i x (by simpa using hx)
  · intro i j x y hij hx hy hwr
    cases i with
    | zero =>
      cases j with
      | zero => exact absurd rfl hij
      | succ j =>
        simp at hx; subst hx
        cases j with
        | zero =>
          simp at hy; subst hy
          simp [hw] at hwr
        | succ j => exact hS.apart 0 (j + 1) _ y (by omega) rfl (by simpa using hy) hwr
    | succ i =>
      cases j with
      | zero =>
        simp at hy; subst hy
        cases i with
        | zero =>
          simp at hx; subst hx
          simp [hw] at hwr
        | succ i => exact hS.apart (i + 1) 0 x _ (by omega) (by simpa using hx) rfl hwr
      | succ j => exact hS.apart i j x y (by omega) (by simpa using hx) (by simpa using hy) hwr
/-- A call that looks at memory: what it looked at is as it was. -/
theorem Meets.look {P : Program} {f : Nat} {args : List Value} {h : HP} {Q : Value → Prop} (hw : h.wr = false) (hm : Meets P f args [h] fun v _ => Q v) : Meets P f args [h] fun v hs => Q v ∧ hs = [h] := by
  intro w Fs ho
  refine (hm w (h :: Fs) (Owns.dup hw ho)).mono ?_
  rintro e w' ⟨v, hs, rfl, hq, ho', hsm⟩
  exact ⟨v, [h], rfl, ⟨hq, rfl⟩, Owns.sub ho' (List.sublist_append_right _ _), hsm⟩
/-- A call of whose memory nothing is told, but what it looked at. -/
theorem Meets.of_look {P : Program} {C : Ctx} (hT : checkT P C.T = true) (hFT : FTOk P C.FT) (hm : P.follows .mixedOrders = true) {f : Nat} {fd : Func} (hf : P.funcs[f]? = some fd) {args : List SV} {cnt : Cnt} {ρ : Env} (hl : Lens ρ cnt) {h0 : HP} (hw : h0.wr = false) (hp0 : (Ck.abs 0).den ρ = h0) (Q : Value → Prop)
    {g : F} {s : Prop} (e : runF C f args [.abs 0] cnt fd = g) (hv : VC P (fun v _ => Q v) g ρ (fun _ => LC.none) = s) (hs : s) (hPu : PureOk P C := by exact PureOk.none rfl) : Meets P f (SV.vals ρ args) [h0] (fun v hs => Q v ∧ hs = [h0]) := by
  subst e; subst hv
  have := Meets.of_run (Post := fun v _ => Q v) (hp := [.abs 0]) hT hFT hm hf hl hs hPu
  rw [show [Ck.abs 0].map (Ck.den ρ) = [h0] by rw [List.map_singleton, hp0]] at this
  exact this.look hw
end Go.RX
