/- A reflective symbolic executor: predicates put together to one, and in another order; frames of contracts. -/
import Derived.Test.YtgaabcinjbjbgaaGreatDoorRxZ
import Derived.Below
import Derived.ChangeArms
import Derived.ChangeSame
import Derived.DataReads
import Derived.OpenShut

namespace Go.RX

theorem FTOk.nil {P : Program} : FTOk P [] := fun x hx => (by cases hx)
theorem FTOk.cons {P : Program} {FT : List (Nat × Func)} {f : Nat} {fd : Func} (h : P.funcs[f]? = some fd) (hn : (fd.name == "runtime.NumGoroutine") = false) (hr : FTOk P FT) : FTOk P ((f, fd) :: FT) := by
  intro x hx
  rcases List.mem_cons.1 hx with rfl | hx
  · exact ⟨h, hn⟩
  · exact hr x hx

def BE.surely (b : BE) : Option Bool := if b.sc {} then some (b.den env0) else none
/-- A formula that holds at sight: the call returns true. -/
def F.triv : F → Bool
  | .vc b r => b.sure && r.triv
  | .fork c t e => match c.surely with
    | some true => t.triv
    | some false => e.triv
    | none => t.triv && e.triv
  | .ret (.bool b) _ => b.sure
  | .allB r => r.triv
  | .allV r => r.triv
  | .nilV r => r.triv
  | .allRec _ r => r.triv
  | .both a b => a.triv && b.triv
  | _ => false

theorem F.triv_sound {P : Program} {f : F} (ρ : Env) (L : Nat → LC) (h : f.triv = true) : VC P (fun v _ => v = .bool true) f ρ L := by
  induction f generalizing ρ L with
  | vc b r ih =>
    simp only [F.triv, Bool.and_eq_true] at h
    exact ⟨(BE.den_iff ρ b).1 (sure_prop h.1 ρ), fun _ => ih ρ L h.2⟩
  | fork c t e iht ihe =>
    simp only [F.triv] at h
    split at h
    · rename_i hc
      unfold BE.surely at hc
      split at hc
      · rename_i hs
        simp only [Option.some.injEq] at hc
        exact ⟨fun _ => iht ρ L h, fun hn => absurd ((BE.den_iff ρ c).1 (by rw [closed_den hs]; exact hc)) hn⟩
      · cases hc
    · rename_i hc
      unfold BE.surely at hc
      split at hc
      · rename_i hs
        simp only [Option.some.injEq] at hc
        refine ⟨fun hn => ?_, fun _ => ihe ρ L h⟩
        have := (BE.den_iff ρ c).2 hn
        rw [closed_den hs, hc] at this
        cases this
      · cases hc
    · simp only [Bool.and_eq_true] at h
      exact ⟨fun _ => iht ρ L h.1, fun _ => ihe ρ L h.2⟩
  | ret v hp =>
    cases v with
    | bool b => simp only [F.triv] at h; simp only [VC, SV.val, sure_prop h ρ]
    | _ => simp [F.triv] at h
  | allB r ih => exact fun _ => ih _ L h
  | allV r ih => exact fun _ => ih _ L h
  | nilV r ih => exact ih _ L h
  | allRec b r ih => cases b with
    | true => exact fun _ _ _ => ih _ L h
    | false => exact fun _ _ => ih _ L h
  | fail => simp [F.triv] at h
  | call => simp [F.triv] at h
  | loop => simp [F.triv] at h
  | back => simp [F.triv] at h
  | join => simp [F.triv] at h
  | meet => simp [F.triv] at h
  | ghost => simp [F.triv] at h
  | both a b iha ihb =>
    simp only [F.triv, Bool.and_eq_true] at h
    exact ⟨iha ρ L h.1, ihb ρ L h.2⟩

/-- What a law's statement asks of a call: true, and nothing that was there is written. -/
theorem Meets.law {P : Program} {f : Nat} {args : List Value} {pre : List HP} (h : Meets P f args pre fun v _ => v = .bool true) (w : World) (hown : Owns (pre ++ [keptHP w.heap.size w]) w) :
    Calls P f args.toArray w fun e w' => e = .returned (.bool true) ∧ RowKit.Below w.heap.size w w' := by
  refine (h w _ hown).mono ?_
  rintro e w' ⟨v, hs, rfl, rfl, ⟨S, hS⟩, hsm⟩
  refine ⟨rfl, ?_⟩
  have := (hS.at_ hs.length (keptHP w.heap.size w) (by simp)).1
  exact ⟨hsm.os, hsm.tape, hsm.output, hsm.size, fun k hk => this.2 k hk⟩
theorem owns_kept (w : World) : Owns [keptHP w.heap.size w] w := by
  refine ⟨fun _ k => k < w.heap.size, ⟨?_, ?_⟩⟩
  · intro i h hi
    cases i with
    | zero => simp at hi; subst hi; exact ⟨⟨fun _ => Iff.rfl, fun _ _ => rfl⟩, fun _ h => h⟩
    | succ i => simp at hi
  · intro i j hi hj hne h1 h2
    cases i <;> cases j <;> simp_all

/-- A law without arguments. -/
theorem law0 {P : Program} {C : Ctx} (hT : checkT P C.T = true) (hFT : FTOk P C.FT) (hm : P.follows .mixedOrders = true) {f : Nat} {fd : Func} (hf : P.funcs[f]? = some fd)
    (h : (runF C f [] [] {} fd).triv = true) (w : World) (hPu : PureOk P C := by exact PureOk.none rfl) : Calls P f #[] w fun e w' => e = .returned (.bool true) ∧ RowKit.Below w.heap.size w w' := by
  have := Meets.of_run (Post := fun v _ => v = .bool true) (ρ := env0) hT hFT hm hf (by constructor <;> rfl) (F.triv_sound _ _ h) hPu
  exact this.law w (owns_kept w)

end Go.RX

namespace Go.RX

def Ent (a b : List HP) : Prop := ∀ (w : World) (Fs : List HP), Owns (a ++ Fs) w → Owns (b ++ Fs) w
theorem Ent.refl (a : List HP) : Ent a a := fun _ _ h => h
theorem Ent.trans {a b c : List HP} (h : Ent a b) (k : Ent b c) : Ent a c := fun w Fs o => k w Fs (h w Fs o)

theorem sub_inj {α : Type} {a b : List α} (h : b.Sublist a) : ∃ f : Nat → Nat, (∀ i j, f i = f j → i = j) ∧ ∀ (j : Nat) x, b[j]? = some x → a[f j]? = some x := by
  induction h with
  | slnil => exact ⟨id, fun _ _ h => h, fun _ _ h => h⟩
  | cons x _ ih =>
    obtain ⟨f, h1, h2⟩ := ih
    exact ⟨fun j => f j + 1, fun i j h => h1 i j (by simpa using h), fun j y hy => by simpa using h2 j y hy⟩
  | cons_cons x _ ih =>
    obtain ⟨f, h1, h2⟩ := ih
    refine ⟨fun j => match j with | 0 => 0 | j + 1 => f j + 1, fun i j h => ?_, fun j y hy => ?_⟩
    · cases i <;> cases j <;> simp at h ⊢
      exact h1 _ _ h
    · cases j with
      | zero => simpa using hy
      | succ j => simpa using h2 j y (by simpa using hy)
theorem Owns.sub {a b : List HP} {w : World} (h : Owns a w) (hs : b.Sublist a) : Owns b w := by
  obtain ⟨f, h1, h2⟩ := sub_inj hs
  refine h.pick' (fun j => some (f j)) (fun j x hx => .inr ⟨f j, rfl, h2 j x hx⟩) ?_
  intro j j' i hj hj' _ _
  cases hj
  simp only [Option.some.injEq] at hj'
  exact h1 _ _ hj'.symm
theorem Ent.sub {a b : List HP} (h : b.Sublist a) : Ent a b := fun _ _ o => o.sub (List.Sublist.append h (List.Sublist.refl _))
theorem Ent.put {a : List HP} (i : Nat) (h0 h' : HP) (hi : a[i]? = some h0) (hw : h'.wr = true → h0.wr = true) (hp : ∀ w S, h0.p w S → ∃ S' : Nat → Prop, (∀ k, S' k → S k) ∧ h'.p w S') : Ent a (a.set i h') := by
  intro w Fs ⟨S, hS⟩
  have hlt : i < a.length := (List.getElem?_eq_some_iff.1 hi).1
  obtain ⟨S', h1, h2⟩ := hp _ _ (hS.at_ i h0 (by rw [List.getElem?_append_left hlt]; exact hi)).1
  exact Owns.weaken hS i h0 h' hi hw S' h1 h2

theorem Meets.post {P : Program} {f : Nat} {args : List Value} {pre : List HP} {p q : Value → List HP → Prop} (h : Meets P f args pre p) (hpq : ∀ v hs, p v hs → ∃ hs', Ent hs hs' ∧ q v hs') : Meets P f args pre q := by
  intro w Fs o
  refine (h w Fs o).mono ?_
  rintro e w' ⟨v, hs, he, hp, ho, hs'⟩
  obtain ⟨hs2, h1, h2⟩ := hpq v hs hp
  exact ⟨v, hs2, he, h2, h1 _ _ ho, hs'⟩
theorem Meets.pre {P : Program} {f : Nat} {args : List Value} {pre pre' : List HP} {p : Value → List HP → Prop} (h : Meets P f args pre' p) (he : Ent pre pre') : Meets P f args pre p :=
  fun w Fs o => h w Fs (he _ _ o)

/-- A call without arguments, whose formula holds at sight. -/
theorem Meets.triv {P : Program} {C : Ctx} (hT : checkT P C.T = true) (hFT : FTOk P C.FT) (hm : P.follows .mixedOrders = true) {f : Nat} {fd : Func} (hf : P.funcs[f]? = some fd)
    (h : (runF C f [] [] {} fd).triv = true) (hPu : PureOk P C := by exact PureOk.none rfl) : Meets P f [] [] (fun v hs => v = .bool true ∧ hs = []) := by
  have := Meets.of_run (Post := fun v _ => v = .bool true) (ρ := env0) (args := []) (hp := []) hT hFT hm hf (by constructor <;> rfl) (F.triv_sound _ _ h) hPu
  exact this.post fun v hs h => ⟨[], Ent.sub (List.nil_sublist _), h, rfl⟩

/-- A first part of an owned slice. -/
theorem sli_cut {w : World} {t s n k : Nat} {v : Value} {cs : List Value} {S : Nat → Prop} (h : (sliHP true t s v n cs).p w S) (hk : k ≤ n) :
    (sliHP true t s (subSlice s v 0 k none) k (cs.take (k * s))).p w S := by
  have hw := SubAt.whole (ρ := env0) (s := s) (v := v) (n := .lit n) (by simpa [E.den] using sli_whole h)
  have hst := hw.step ⟨.lit 0, .lit k, none⟩ (fun b hb => by
    simp only [cutStep, eAdd] at hb
    have : ∀ (x y : Int), x ≤ y → ∀ b ∈ bLe' (.lit x) (.lit y), b.prop env0 := by
      intro x y hxy b hb
      unfold bLe' at hb
      split at hb
      · cases hb
      · simp [bLe, hxy] at hb
    rcases List.mem_append.1 hb with hb | hb
    · rcases List.mem_append.1 hb with hb | hb
      · exact this 0 0 (Int.le_refl _) b hb
      · exact this 0 k (by omega) b hb
    · exact this (0 + k) n (by omega) b hb)
  have hsub := hst.1
  obtain ⟨hown, hblk⟩ := h
  simp only [if_true] at hown
  have hx : subSlice s v (E.den env0 (.lit 0) 0).toNat (E.den env0 (.lit k) 0).toNat (Option.map (fun m => (E.den env0 m 0).toNat) none) = subSlice s v 0 k none := by simp [E.den]
  rw [hx] at hsub
  have hln : ((E.lit (n : Int)).den env0 0).toNat = n := by simp [E.den]
  rw [← hln] at hown
  obtain ⟨o1, o2⟩ := ownsAt_part hsub (by simp [cutStep, eSub, E.den]) hown
  rw [show ((cutStep (.lit (n : Int)) ⟨.lit 0, .lit (n : Int), none⟩ ⟨.lit 0, .lit (k : Int), none⟩).1.lo.den env0 0).toNat = 0 by simp [cutStep, eAdd, E.den], Nat.zero_mul, List.drop_zero] at o1
  have hlk : ((cutStep (.lit (n : Int)) ⟨.lit 0, .lit (n : Int), none⟩ ⟨.lit 0, .lit (k : Int), none⟩).1.len.den env0 0).toNat = k := by simp [cutStep, eSub, E.den]
  rw [hlk] at o1
  refine ⟨?_, fun q => ?_⟩
  · simp only [if_true]; exact o1
  · rw [o2, hblk q]; simp

/-- An owned slice may be looked at alone. -/
theorem sli_look {w : World} {t s n : Nat} {v : Value} {cs : List Value} {S : Nat → Prop} (h : (sliHP true t s v n cs).p w S) : (sliHP false t s v n cs).p w (fun k => S k ∧ 0 < n) := by
  obtain ⟨hv, hl⟩ := sli_views h
  refine ⟨by simp only [Bool.false_eq_true, if_false]; exact ⟨hl, hv⟩, fun k => ?_⟩
  show (S k ∧ 0 < n) ↔ _
  rw [h.2 k]
  simp

/-- A slice of integers that came in. -/
def IsRow (k : IntKind) (w : World) (a : Option Addr) (len cap : Nat) (zs : List Int) : Prop :=
  (a = none ∧ len = 0 ∧ cap = 0 ∧ zs = []) ∨
  ∃ x, a = some x ∧ len ≤ cap ∧ cap ≤ maxLen ∧ zs.length = cap ∧ (∀ i, i < zs.length → w.cell? (x.add i) = some (.int k (zs.getD i 0))) ∧ ∀ n ∈ zs, (Lit.int k n).wf = true

theorem tabI_congr {k : IntKind} {n : Nat} {f g : Nat → Int} (h : ∀ i, i < n → f i = g i) : tabL n [colI k 1 f] = tabL n [colI k 1 g] := by
  unfold tabL
  rw [List.flatMap_def, List.flatMap_def]
  congr 1
  refine List.map_congr_left fun i hi => ?_
  have := h i (List.mem_range.1 hi)
  simp [colI, segCells, this]
theorem tabI_eq (k : IntKind) (n : Nat) (f : Nat → Int) : tabL n [colI k 1 f] = segCells k n f := by
  unfold tabL segCells
  induction n with
  | zero => rfl
  | succ n ih =>
    rw [List.range_succ, List.flatMap_append, List.map_append, ih]
    simp [colI, segCells]
theorem tabI_take (k : IntKind) (n m : Nat) (f : Nat → Int) (h : m ≤ n) : (tabL n [colI k 1 f]).take (m * 1) = tabL m [colI k 1 f] := by
  rw [tabI_eq, tabI_eq, Nat.mul_one, segCells_take k n m f h]

theorem views_row {k : IntKind} {w : World} {a : Option Addr} {len cap : Nat} {zs : List Int} (h : IsRow k w a len cap zs) (t : Nat) :
    (sliHP false t 1 (.slice a len cap) len (tabL len [colI k 1 fun i => zs.getD i 0])).p w (fun b => (Value.slice a len cap).ownBlock = some b ∧ 0 < len) ∧
      ∀ b, (Value.slice a len cap).ownBlock = some b ∧ 0 < len → b < w.heap.size := by
  refine ⟨⟨?_, fun b => by simp⟩, ?_⟩
  · simp only [Bool.false_eq_true, if_false]
    rw [tabI_eq]
    refine ⟨by simp [segCells_length], a, len, cap, rfl, rfl, ?_, ?_, ?_⟩
    · rcases h with ⟨_, rfl, rfl, _⟩ | ⟨x, _, h, _⟩
      · exact Nat.le_refl _
      · exact h
    · rintro rfl
      rcases h with ⟨_, h, _⟩ | ⟨x, h, _⟩
      · exact h
      · cases h
    · rintro ad rfl
      rcases h with ⟨h, _⟩ | ⟨x, h, hl, _, hz, hc, _⟩
      · cases h
      · cases h
        constructor
        · intro hpos
          have h0 := hc 0 (by omega)
          rw [addr_add_zero] at h0
          exact World.cell?_spot h0
        · intro j u hu
          rw [segCells_getElem?] at hu
          split at hu
          · rename_i hj
            rw [hc j (by omega), ← hu]
          · cases hu
  · rintro b ⟨hb, hpos⟩
    rcases h with ⟨rfl, rfl, _⟩ | ⟨x, rfl, hl, _, hz, hc, _⟩
    · omega
    · simp only [Value.ownBlock, Option.some.injEq] at hb
      subst hb
      have := World.block_lt_of_cell? w (x.add 0) (hc 0 (by omega))
      rw [addr_add_zero] at this
      exact this

theorem owns_row {k : IntKind} {w : World} {a : Option Addr} {len cap : Nat} {zs : List Int} (h : IsRow k w a len cap zs) (t : Nat) :
    Owns ([sliHP false t 1 (.slice a len cap) len (tabL len [colI k 1 fun i => zs.getD i 0])] ++ [keptHP w.heap.size w]) w := by
  obtain ⟨h1, h2⟩ := views_row h t
  refine ⟨fun i b => if i = 0 then (Value.slice a len cap).ownBlock = some b ∧ 0 < len else b < w.heap.size, ⟨?_, ?_⟩⟩
  · intro i hp hi
    match i, hi with
    | 0, hi => simp at hi; subst hi; exact ⟨h1, h2⟩
    | 1, hi => simp at hi; subst hi; exact ⟨⟨fun _ => Iff.rfl, fun _ _ => rfl⟩, fun _ h => h⟩
    | i + 2, hi => simp at hi
  · intro i j x y hne hi hj hwr
    exfalso
    have key : ∀ (i : Nat) (x : HP), ([sliHP false t 1 (.slice a len cap) len (tabL len [colI k 1 fun i => zs.getD i 0])] ++ [keptHP w.heap.size w])[i]? = some x → x.wr = false := by
      intro i x hi
      match i, hi with
      | 0, hi => simp at hi; subst hi; rfl
      | 1, hi => simp at hi; subst hi; rfl
      | i + 2, hi => simp at hi
    rw [key i x hi, key j y hj] at hwr
    simp at hwr
end Go.RX

namespace Go.RX

def flatF (P : Program) (g : TypeId → Option (List (Option IntKind))) : List Field → Nat → Option (List (Option IntKind))
  | [], _ => some []
  | f :: r, off => match g f.type, flatF P g r (off + P.cellsOf f.type) with
    | some ks, some l => if f.offset = off ∧ P.cellsOf f.type = ks.length then some (ks ++ l) else none
    | _, _ => none
/-- The cells of a type of integers and bools, structs within structs too; none: a bool. -/
def flat (P : Program) : Nat → TypeId → Option (List (Option IntKind))
  | 0, _ => none
  | n + 1, t => match P.underlying t with
    | some (.int k) => some [some k]
    | some .bool => some [none]
    | some (.struct fs) => flatF P (flat P n) fs.toList 0
    | _ => none

def cellV : Option IntKind → Int → Value
  | some k, n => .int k n
  | none, n => .bool (!(n == 0))
def cellWf : Option IntKind → Int → Prop
  | some k, n => (Lit.int k n).wf = true
  | none, _ => True
def CellOk (k : Option IntKind) (v : Value) : Prop := ∃ n, v = cellV k n ∧ cellWf k n

section
variable {H : Type} {enc : TypeId × Value → H} {P : Program} {w : World} {base : Nat} {spare : Nat → Bool} {held : Bool}

theorem flatF_trod {g : TypeId → Option (List (Option IntKind))} {cs : List Value} (hg : ∀ t ks cs', g t = some ks → (∃ n x, DataW.trod enc P w base spare held n t cs' = some x) → ∀ (j : Nat) k, ks[j]? = some k → ∃ v, cs'[j]? = some v ∧ CellOk k v) :
    ∀ {fs : List Field} {off : Nat} {ks : List (Option IntKind)}, flatF P g fs off = some ks → (∀ f ∈ fs, ∃ n x, DataW.trod enc P w base spare held n f.type ((cs.drop f.offset).take (P.cellsOf f.type)) = some x) →
      ∀ (j : Nat) k, ks[j]? = some k → ∃ v, cs[off + j]? = some v ∧ CellOk k v
  | [], off, ks, h, _, j, k, hk => by
    simp only [flatF, Option.some.injEq] at h
    subst h
    simp at hk
  | f :: r, off, ks, h, hf, j, k, hk => by
    unfold flatF at h
    split at h
    · rename_i k1 l h1 h2
      split at h
      · rename_i hc
        obtain ⟨rfl, hc2⟩ := hc
        cases h
        by_cases hj : j < k1.length
        · rw [List.getElem?_append_left hj] at hk
          obtain ⟨v, hv, hok⟩ := hg _ _ _ h1 (hf f List.mem_cons_self) j k hk
          refine ⟨v, ?_, hok⟩
          rw [List.getElem?_take] at hv
          split at hv
          · rw [List.getElem?_drop] at hv; exact hv
          · cases hv
        · rw [List.getElem?_append_right (by omega)] at hk
          obtain ⟨v, hv, hok⟩ := flatF_trod hg h2 (fun f' hf' => hf f' (List.mem_cons_of_mem _ hf')) _ k hk
          refine ⟨v, ?_, hok⟩
          rw [← hv, hc2]
          congr 1
          omega
      · cases h
    · cases h

theorem flat_trod : ∀ {n : Nat} {t : TypeId} {ks : List (Option IntKind)} {cs : List Value}, flat P n t = some ks → (∃ m x, DataW.trod enc P w base spare held m t cs = some x) → ∀ (j : Nat) k, ks[j]? = some k → ∃ v, cs[j]? = some v ∧ CellOk k v
  | 0, _, _, _, h, _, _, _, _ => by cases h
  | n + 1, t, ks, cs, h, ⟨m, x, hx⟩, j, k, hk => by
    unfold flat at h
    split at h
    · rename_i kk ht
      cases h
      obtain ⟨z, rfl, _, hw⟩ := DataW.trod_int ht hx
      match j, hk with
      | 0, hk =>
        simp at hk
        subst hk
        exact ⟨_, rfl, z, rfl, hw⟩
      | j + 1, hk => simp at hk
    · rename_i ht
      cases h
      cases m with
      | zero => simp [DataW.trod] at hx
      | succ m =>
        have hb : ∃ b, cs = [.bool b] := by
          unfold DataW.trod at hx
          rw [ht] at hx
          split at hx <;> simp_all
        obtain ⟨b, rfl⟩ := hb
        match j, hk with
        | 0, hk =>
          simp at hk
          subst hk
          exact ⟨_, rfl, if b then 1 else 0, by cases b <;> rfl, trivial⟩
        | j + 1, hk => simp at hk
    · rename_i fs ht
      obtain ⟨ys, n', _, _, _, hyl, hf⟩ := DataW.trod_struct ht hx
      have := flatF_trod (cs := cs) (fun t ks cs' h1 h2 => flat_trod (n := n) h1 h2) h (fun f hf' => by
        obtain ⟨i, hi⟩ := List.getElem?_of_mem hf'
        have hi' : fs[i]? = some f := by rw [← hi, Array.getElem?_toList]
        have h1 := hf i f hi'
        have hil : i < fs.size := (Array.getElem?_eq_some_iff.1 hi').1
        exact ⟨n', ys[i]'(by omega), h1.trans (List.getElem?_eq_getElem _)⟩) j k hk
      simpa using this
    · cases h
end

/-- A slice of structs that came in: cell j of its element i. -/
def IsTab (ks : List (Option IntKind)) (w : World) (a : Option Addr) (len cap : Nat) (F : Nat → Nat → Int) : Prop :=
  (a = none ∧ len = 0 ∧ cap = 0) ∨
  ∃ x, a = some x ∧ len ≤ cap ∧ cap ≤ maxLen ∧ ∀ i, i < len → ∀ (j : Nat) k, ks[j]? = some k → w.cell? (x.add (i * ks.length + j)) = some (cellV k (F i j)) ∧ cellWf k (F i j)

theorem open_tab {H : Type} {enc : TypeId × Value → H} {P : Program} {w : World} {base : Nat} {spare : Nat → Bool} {held : Bool} {t e : TypeId} {n : Nat} {ks : List (Option IntKind)} {fuel : Nat} {cs : List Value} {x : DataW H × List MemPlace}
    (ht : P.underlying t = some (.slice e)) (he : flat P n e = some ks) (hc : P.cellsOf e = ks.length) (h : DataW.trod enc P w base spare held fuel t cs = some x) :
    ∃ a len cap F, cs = [.slice a len cap] ∧ IsTab ks w a len cap F := by
  rcases DataW.trod_slice ht h with ⟨rfl, _⟩ | ⟨a, len, cap, elems, rest, m, _, rfl, _, hb, hl, hm, hlen, hel, _, _⟩
  · exact ⟨none, 0, 0, fun _ _ => 0, rfl, .inl ⟨rfl, rfl, rfl⟩⟩
  have key : ∀ i j, ∃ z : Int, i < len → ∀ k, ks[j]? = some k → w.cell? (a.add (i * ks.length + j)) = some (cellV k z) ∧ cellWf k z := by
    intro i j
    by_cases hi : i < len
    · cases hk : ks[j]? with
      | none => exact ⟨0, fun _ k hk' => by cases hk'⟩
      | some k =>
        have h1 := hel i hi
        have hg : elems[i]? = some (elems[i]'(by omega)) := List.getElem?_eq_getElem (by omega)
        rw [hg, Option.bind_eq_some_iff] at h1
        obtain ⟨cs', hcs, htr⟩ := h1
        obtain ⟨v, hv, z, rfl, hz⟩ := flat_trod he ⟨_, _, htr⟩ j k hk
        obtain ⟨_, hcl, hat⟩ := World.cells?_some hcs
        have hjl : j < ks.length := (List.getElem?_eq_some_iff.1 hk).1
        refine ⟨z, fun _ k' hk' => ?_⟩
        cases hk'
        refine ⟨?_, hz⟩
        have := hat j (by rw [hc]; exact hjl)
        rw [hv, hc, addr_add_add] at this
        exact this
    · exact ⟨0, fun h => absurd h hi⟩
  refine ⟨some a, len, cap, fun i j => (key i j).choose, rfl, .inr ⟨a, rfl, hl, hm, fun i hi j k hk => (key i j).choose_spec hi k hk⟩⟩

def colOf (k : Option IntKind) (f : Nat → Int) : Nat → List Value :=
  match k with
  | some k => colI k 1 f
  | none => colB 1 f
theorem colOf_eq (k : Option IntKind) (f : Nat → Int) (i : Nat) : colOf k f i = [cellV k (f i)] := by
  cases k <;> simp [colOf, colI, colB, segCells, cellV]
def colsOfTab : List (Option IntKind) → (Nat → Nat → Int) → List (Nat → List Value)
  | [], _ => []
  | k :: r, F => colOf k (fun i => F i 0) :: colsOfTab r fun i j => F i (j + 1)
theorem colsOfTab_at : ∀ {ks : List (Option IntKind)} {F : Nat → Nat → Int} {i : Nat}, ((colsOfTab ks F).flatMap fun c => c i).length = ks.length ∧ ∀ (j : Nat) u, ((colsOfTab ks F).flatMap fun c => c i)[j]? = some u → ∃ k, ks[j]? = some k ∧ u = cellV k (F i j)
  | [], F, i => ⟨rfl, fun j u h => by simp [colsOfTab] at h⟩
  | k :: r, F, i => by
    obtain ⟨h1, h2⟩ := colsOfTab_at (ks := r) (F := fun i j => F i (j + 1)) (i := i)
    simp only [colsOfTab, List.flatMap_cons, colOf_eq, List.singleton_append]
    refine ⟨by simp only [List.length_cons, h1], fun j u h => ?_⟩
    cases j with
    | zero => simp at h; exact ⟨k, rfl, h.symm⟩
    | succ j => exact h2 j u (by simpa using h)
theorem tab_at {ks : List (Option IntKind)} {F : Nat → Nat → Int} : ∀ {n : Nat}, (tabL n (colsOfTab ks F)).length = n * ks.length ∧ ∀ (m : Nat) u, (tabL n (colsOfTab ks F))[m]? = some u → ∃ i j k, i < n ∧ ks[j]? = some k ∧ m = i * ks.length + j ∧ u = cellV k (F i j)
  | 0 => ⟨by simp [tabL], fun m u h => by simp [tabL] at h⟩
  | n + 1 => by
    obtain ⟨h1, h2⟩ := tab_at (ks := ks) (F := F) (n := n)
    have e : tabL (n + 1) (colsOfTab ks F) = tabL n (colsOfTab ks F) ++ (colsOfTab ks F).flatMap fun c => c n := by
      simp [tabL, List.range_succ, List.flatMap_append]
    obtain ⟨h3, h4⟩ := colsOfTab_at (ks := ks) (F := F) (i := n)
    rw [e]
    refine ⟨by rw [List.length_append, h1, h3, Nat.succ_mul], fun m u h => ?_⟩
    by_cases hm : m < (tabL n (colsOfTab ks F)).length
    · rw [List.getElem?_append_left hm] at h
      obtain ⟨i, j, k, q1, q2, q3, q4⟩ := h2 m u h
      exact ⟨i, j, k, by omega, q2, q3, q4⟩
    · rw [List.getElem?_append_right (by omega)] at h
      obtain ⟨k, q1, q2⟩ := h4 _ u h
      refine ⟨n, _, k, by omega, q1, ?_, q2⟩
      rw [h1] at hm ⊢
      omega

theorem owns_tab {ks : List (Option IntKind)} {w : World} {a : Option Addr} {len cap : Nat} {F : Nat → Nat → Int} (h : IsTab ks w a len cap F) (hk : 0 < ks.length) (t : Nat) :
    Owns ([sliHP false t ks.length (.slice a len cap) len (tabL len (colsOfTab ks F))] ++ [keptHP w.heap.size w]) w := by
  have hk0 : ∃ k, ks[0]? = some k := ⟨_, List.getElem?_eq_getElem hk⟩
  obtain ⟨k0, hk0⟩ := hk0
  have h1 : (sliHP false t ks.length (.slice a len cap) len (tabL len (colsOfTab ks F))).p w (fun b => (Value.slice a len cap).ownBlock = some b ∧ 0 < len) := by
    refine ⟨?_, fun b => by simp⟩
    simp only [Bool.false_eq_true, if_false]
    refine ⟨tab_at.1, a, len, cap, rfl, rfl, ?_, ?_, ?_⟩
    · rcases h with ⟨_, rfl, rfl⟩ | ⟨x, _, h, _⟩
      · exact Nat.le_refl _
      · exact h
    · rintro rfl
      rcases h with ⟨_, h, _⟩ | ⟨x, h, _⟩
      · exact h
      · cases h
    · rintro ad rfl
      rcases h with ⟨h, _⟩ | ⟨x, h, hl, _, hc⟩
      · cases h
      · cases h
        constructor
        · intro hpos
          have h0 := (hc 0 hpos 0 k0 hk0).1
          rw [Nat.zero_mul, Nat.zero_add, addr_add_zero] at h0
          exact World.cell?_spot h0
        · intro j u hu
          obtain ⟨i, j', k, q1, q2, rfl, rfl⟩ := tab_at.2 j u hu
          exact (hc i q1 j' k q2).1
  have h2 : ∀ b, (Value.slice a len cap).ownBlock = some b ∧ 0 < len → b < w.heap.size := by
    rintro b ⟨hb, hpos⟩
    rcases h with ⟨rfl, rfl, _⟩ | ⟨x, rfl, hl, _, hc⟩
    · omega
    · simp only [Value.ownBlock, Option.some.injEq] at hb
      subst hb
      have := World.block_lt_of_cell? w _ (hc 0 hpos 0 k0 hk0).1
      rw [Nat.zero_mul, Nat.zero_add, addr_add_zero] at this
      exact this
  refine ⟨fun i b => if i = 0 then (Value.slice a len cap).ownBlock = some b ∧ 0 < len else b < w.heap.size, ⟨?_, ?_⟩⟩
  · intro i hp hi
    match i, hi with
    | 0, hi => simp at hi; subst hi; exact ⟨h1, h2⟩
    | 1, hi => simp at hi; subst hi; exact ⟨⟨fun _ => Iff.rfl, fun _ _ => rfl⟩, fun _ h => h⟩
    | i + 2, hi => simp at hi
  · intro i j x y hne hi hj hwr
    exfalso
    have key : ∀ (i : Nat) (x : HP), ([sliHP false t ks.length (.slice a len cap) len (tabL len (colsOfTab ks F))] ++ [keptHP w.heap.size w])[i]? = some x → x.wr = false := by
      intro i x hi
      match i, hi with
      | 0, hi => simp at hi; subst hi; rfl
      | 1, hi => simp at hi; subst hi; rfl
      | i + 2, hi => simp at hi
    rw [key i x hi, key j y hj] at hwr
    simp at hwr
end Go.RX

namespace Go.RX

/-- The cells of a type of integers and bools, structs and arrays within each other too; none: a bool. -/
def flatA (P : Program) : Nat → TypeId → Option (List (Option IntKind))
  | 0, _ => none
  | n + 1, t => match P.underlying t with
    | some (.int k) => some [some k]
    | some .bool => some [none]
    | some (.struct fs) => flatF P (flatA P n) fs.toList 0
    | some (.array m e) => match flatA P n e with
      | some ks => if P.cellsOf e = ks.length then some (List.replicate m ks).flatten else none
      | none => none
    | _ => none

section
variable {H : Type} {enc : TypeId × Value → H} {P : Program} {w : World} {base : Nat} {spare : Nat → Bool} {held : Bool}

theorem flatR {ks : List (Option IntKind)} {cs : List Value} : ∀ (m off : Nat), (∀ i, i < m → ∀ (j : Nat) k, ks[j]? = some k → ∃ v, cs[off + i * ks.length + j]? = some v ∧ CellOk k v) →
    ∀ (j : Nat) k, (List.replicate m ks).flatten[j]? = some k → ∃ v, cs[off + j]? = some v ∧ CellOk k v
  | 0, _, _, j, k, hk => by simp at hk
  | m + 1, off, h, j, k, hk => by
    rw [List.replicate_succ, List.flatten_cons] at hk
    by_cases hj : j < ks.length
    · rw [List.getElem?_append_left hj] at hk
      simpa using h 0 (by omega) j k hk
    · rw [List.getElem?_append_right (by omega)] at hk
      obtain ⟨v, hv, hok⟩ := flatR m (off + ks.length) (fun i hi j k hk => by
        obtain ⟨v, hv, hok⟩ := h (i + 1) (by omega) j k hk
        exact ⟨v, by rw [← hv, Nat.succ_mul]; congr 1; omega, hok⟩) _ k hk
      exact ⟨v, by rw [← hv]; congr 1; omega, hok⟩

theorem flatA_trod : ∀ {n : Nat} {t : TypeId} {ks : List (Option IntKind)} {cs : List Value}, flatA P n t = some ks → (∃ m x, DataW.trod enc P w base spare held m t cs = some x) → ∀ (j : Nat) k, ks[j]? = some k → ∃ v, cs[j]? = some v ∧ CellOk k v
  | 0, _, _, _, h, _, _, _, _ => by cases h
  | n + 1, t, ks, cs, h, ⟨m, x, hx⟩, j, k, hk => by
    unfold flatA at h
    split at h
    · rename_i kk ht
      cases h
      obtain ⟨z, rfl, _, hw⟩ := DataW.trod_int ht hx
      match j, hk with
      | 0, hk =>
        simp at hk
        subst hk
        exact ⟨_, rfl, z, rfl, hw⟩
      | j + 1, hk => simp at hk
    · rename_i ht
      cases h
      cases m with
      | zero => simp [DataW.trod] at hx
      | succ m =>
        have hb : ∃ b, cs = [.bool b] := by
          unfold DataW.trod at hx
          rw [ht] at hx
          split at hx <;> simp_all
        obtain ⟨b, rfl⟩ := hb
        match j, hk with
        | 0, hk =>
          simp at hk
          subst hk
          exact ⟨_, rfl, if b then 1 else 0, by cases b <;> rfl, trivial⟩
        | j + 1, hk => simp at hk
    · rename_i fs ht
      obtain ⟨ys, n', _, _, _, hyl, hf⟩ := DataW.trod_struct ht hx
      have := flatF_trod (cs := cs) (fun t ks cs' h1 h2 => flatA_trod (n := n) h1 h2) h (fun f hf' => by
        obtain ⟨i, hi⟩ := List.getElem?_of_mem hf'
        have hi' : fs[i]? = some f := by rw [← hi, Array.getElem?_toList]
        have h1 := hf i f hi'
        have hil : i < fs.size := (Array.getElem?_eq_some_iff.1 hi').1
        exact ⟨n', ys[i]'(by omega), h1.trans (List.getElem?_eq_getElem _)⟩) j k hk
      simpa using this
    · rename_i l e ht
      split at h
      · rename_i ks' he
        split at h
        · rename_i hc
          cases h
          obtain ⟨xs, n', _, _, _, hxl, hf⟩ := DataW.trod_array ht hx
          have := flatR (cs := cs) l 0 (fun i hi j k hk => by
            have h1 := hf i hi
            obtain ⟨v, hv, hok⟩ := flatA_trod (n := n) he ⟨n', xs[i]'(by omega), h1.trans (List.getElem?_eq_getElem _)⟩ j k hk
            rw [List.getElem?_take] at hv
            split at hv
            · rw [List.getElem?_drop, hc] at hv
              exact ⟨v, by rw [← hv]; congr 1; omega, hok⟩
            · cases hv) j k hk
          simpa using this
        · cases h
      · cases h
    · cases h
end

def segV (k : Option IntKind) (n : Nat) (f : Nat → Int) : List Value :=
  match k with
  | some k => segCells k n f
  | none => (List.range n).map fun j => .bool (!(f j == 0))
theorem segV_eq (k : Option IntKind) (n : Nat) (f : Nat → Int) : segV k n f = (List.range n).map fun j => cellV k (f j) := by
  cases k <;> rfl
/-- Cells by a layout, of numbers. -/
def layV : List (CellK × Nat) → (Nat → Int) → List Value
  | [], _ => []
  | (k, n) :: r, F => segV k n F ++ layV r fun j => F (n + j)
theorem layV_len : ∀ {l : List (CellK × Nat)} {F : Nat → Int}, (layV l F).length = (layCells l).length
  | [], _ => rfl
  | (k, n) :: r, F => by simp [layV, layCells, segV_eq, layV_len (l := r)]
theorem layV_at : ∀ {l : List (CellK × Nat)} {F : Nat → Int} {j : Nat}, (layV l F)[j]? = (layCells l)[j]?.map fun k => cellV k (F j)
  | [], _, _ => by simp [layV, layCells]
  | (k, n) :: r, F, j => by
    simp only [layV, layCells]
    by_cases hj : j < n
    · rw [List.getElem?_append_left (by simp [segV_eq, hj]), List.getElem?_append_left (by simp [hj]), segV_eq]
      simp [hj]
    · rw [List.getElem?_append_right (by simp [segV_eq]; omega), List.getElem?_append_right (by simp; omega), layV_at]
      simp only [segV_eq, List.length_map, List.length_range, List.length_replicate]
      rw [show n + (j - n) = j by omega]

theorem open_flat {H : Type} {enc : TypeId × Value → H} {P : Program} {w : World} {base : Nat} {spare : Nat → Bool} {held : Bool} {r : Reach} {b0 : Nat} {t : TypeId} {v : Value} {d : DataW H} {ps : List MemPlace} {n : Nat} {l : List (CellK × Nat)}
    (ha : (match P.underlying t with | some (.struct _) => true | some (.array _ _) => true | _ => false) = true) (hf : flatA P n t = some (layCells l)) (hc : P.cellsOf t = (layCells l).length)
    (hval : Value.okWide P w r b0 t v) (hd : DataW.Trod enc P w base spare held t v d ps) :
    ∃ F : Nat → Int, v = .agg (layV l F).toArray ∧ ∀ (j : Nat) k, (layCells l)[j]? = some k → cellWf k (F j) := by
  have hagg : ∃ cs, v = .agg cs ∧ cs.size = P.cellsOf t := by
    unfold Value.okWide at hval
    split at ha
    · rename_i ht; rw [ht] at hval; exact ⟨_, hval.choose_spec.1, hval.choose_spec.2.1⟩
    · rename_i ht; rw [ht] at hval; exact ⟨_, hval.choose_spec.1, hval.choose_spec.2.1⟩
    · cases ha
  obtain ⟨cs, rfl, hs⟩ := hagg
  obtain ⟨fuel, hx⟩ := hd
  have key : ∀ j : Nat, ∃ z : Int, ∀ k, (layCells l)[j]? = some k → cs[j]? = some (cellV k z) ∧ cellWf k z := by
    intro j
    cases hk : (layCells l)[j]? with
    | none => exact ⟨0, fun k h => by cases h⟩
    | some k =>
      obtain ⟨v, hv, z, rfl, hz⟩ := flatA_trod hf ⟨_, _, hx⟩ j k hk
      refine ⟨z, fun k' h => ?_⟩
      cases h
      exact ⟨by simpa [Value.cells] using hv, hz⟩
  refine ⟨fun j => (key j).choose, ?_, fun j k hk => ((key j).choose_spec k hk).2⟩
  congr 1
  apply Array.ext'
  apply List.ext_getElem?
  intro j
  simp only [layV_at]
  have hspec := (key j).choose_spec
  generalize (key j).choose = z at hspec ⊢
  cases hk : (layCells l)[j]? with
  | none =>
    rw [List.getElem?_eq_none_iff] at hk
    simp
    omega
  | some k => simpa using (hspec k hk).1

theorem open_tabA {H : Type} {enc : TypeId × Value → H} {P : Program} {w : World} {base : Nat} {spare : Nat → Bool} {held : Bool} {t e : TypeId} {n : Nat} {ks : List (Option IntKind)} {fuel : Nat} {cs : List Value} {x : DataW H × List MemPlace}
    (ht : P.underlying t = some (.slice e)) (he : flatA P n e = some ks) (hc : P.cellsOf e = ks.length) (h : DataW.trod enc P w base spare held fuel t cs = some x) :
    ∃ a len cap F, cs = [.slice a len cap] ∧ IsTab ks w a len cap F := by
  rcases DataW.trod_slice ht h with ⟨rfl, _⟩ | ⟨a, len, cap, elems, rest, m, _, rfl, _, hb, hl, hm, hlen, hel, _, _⟩
  · exact ⟨none, 0, 0, fun _ _ => 0, rfl, .inl ⟨rfl, rfl, rfl⟩⟩
  have key : ∀ i j, ∃ z : Int, i < len → ∀ k, ks[j]? = some k → w.cell? (a.add (i * ks.length + j)) = some (cellV k z) ∧ cellWf k z := by
    intro i j
    by_cases hi : i < len
    · cases hk : ks[j]? with
      | none => exact ⟨0, fun _ k hk' => by cases hk'⟩
      | some k =>
        have h1 := hel i hi
        have hg : elems[i]? = some (elems[i]'(by omega)) := List.getElem?_eq_getElem (by omega)
        rw [hg, Option.bind_eq_some_iff] at h1
        obtain ⟨cs', hcs, htr⟩ := h1
        obtain ⟨v, hv, z, rfl, hz⟩ := flatA_trod he ⟨_, _, htr⟩ j k hk
        obtain ⟨_, hcl, hat⟩ := World.cells?_some hcs
        have hjl : j < ks.length := (List.getElem?_eq_some_iff.1 hk).1
        refine ⟨z, fun _ k' hk' => ?_⟩
        cases hk'
        refine ⟨?_, hz⟩
        have := hat j (by rw [hc]; exact hjl)
        rw [hv, hc, addr_add_add] at this
        exact this
    · exact ⟨0, fun h => absurd h hi⟩
  refine ⟨some a, len, cap, fun i j => (key i j).choose, rfl, .inr ⟨a, rfl, hl, hm, fun i hi j k hk => (key i j).choose_spec hi k hk⟩⟩

/-- Columns by a layout. -/
def colsOfLay : List (CellK × Nat) → (Nat → Nat → Int) → List (Nat → List Value)
  | [], _ => []
  | (k, n) :: r, F => (match k with
    | some k => colI k n fun m => F (m / n) (m % n)
    | none => colB n fun m => F (m / n) (m % n)) :: colsOfLay r fun i j => F i (n + j)
theorem colsOfLay_at : ∀ {l : List (CellK × Nat)} {F : Nat → Nat → Int} {i : Nat}, ((colsOfLay l F).flatMap fun c => c i) = layV l (F i)
  | [], _, _ => rfl
  | (k, n) :: r, F, i => by
    simp only [colsOfLay, List.flatMap_cons, layV, colsOfLay_at (l := r)]
    congr 1
    rw [segV_eq]
    cases k <;>
    · simp only [colI, colB, segCells, cellV]
      refine List.map_congr_left fun j hj => ?_
      have hj := List.mem_range.1 hj
      rw [Nat.mul_comm i n, Nat.mul_add_div (by omega), Nat.mul_add_mod, Nat.div_eq_of_lt hj, Nat.mod_eq_of_lt hj, Nat.add_zero]
theorem colsOfTab_lay : ∀ {l : List (Option IntKind)} {F : Nat → Nat → Int} {i : Nat}, ((colsOfTab l F).flatMap fun c => c i) = (List.range l.length).map fun j => cellV (l.getD j none) (F i j)
  | [], _, _ => rfl
  | k :: r, F, i => by
    simp only [colsOfTab, List.flatMap_cons, colOf_eq, colsOfTab_lay (l := r)]
    rw [List.length_cons, List.range_succ_eq_map]
    simp [Function.comp_def]
theorem tab_lay {l : List (CellK × Nat)} {F : Nat → Nat → Int} {n : Nat} : tabL n (colsOfTab (layCells l) F) = tabL n (colsOfLay l F) := by
  unfold tabL
  rw [List.flatMap_def, List.flatMap_def]
  congr 1
  refine List.map_congr_left fun i _ => ?_
  rw [colsOfLay_at, colsOfTab_lay]
  apply List.ext_getElem?
  intro j
  rw [layV_at]
  by_cases hj : j < (layCells l).length
  · simp [hj]
  · simp [hj]
theorem owns_lay {l : List (CellK × Nat)} {w : World} {a : Option Addr} {len cap : Nat} {F : Nat → Nat → Int} (h : IsTab (layCells l) w a len cap F) (hk : 0 < (layCells l).length) (t : Nat) :
    Owns ([sliHP false t (layCells l).length (.slice a len cap) len (tabL len (colsOfLay l F))] ++ [keptHP w.heap.size w]) w := by
  rw [← tab_lay]
  exact owns_tab h hk t
/-- A call without arguments, of whose memory nothing is told behind it. -/
theorem Meets.bare {P : Program} {C : Ctx} (hT : checkT P C.T = true) (hFT : FTOk P C.FT) (hm : P.follows .mixedOrders = true) {f : Nat} {fd : Func} (hf : P.funcs[f]? = some fd) (Q : Value → List HP → Prop)
    {g : F} {s : Prop} (e : runF C f [] [] { b := 0, v := 0, i := 0, a := 0, bo := 0, p := 0, r := 0 } fd = g) (hv : VC P (fun v _ => Q v []) g { iv := [], av := [], bo := [], bv := [], vv := [] } (fun _ => LC.none) = s) (hs : s) (hPu : PureOk P C := by exact PureOk.none rfl) : Meets P f [] [] (fun v hs => Q v [] ∧ hs = []) := by
  subst e; subst hv
  have := Meets.of_run (Post := fun v _ => Q v []) (ρ := {}) (args := []) (hp := []) hT hFT hm hf (by constructor <;> rfl) hs hPu
  exact this.post fun v hs h => ⟨[], Ent.sub (List.nil_sublist _), h, rfl⟩
/-- A formula that was printed: the same, argument by argument, so that no elaborator looks into the run. -/
theorem Meets.of_runE {P : Program} {C : Ctx} (hT : checkT P C.T = true) (hFT : FTOk P C.FT) (hm : P.follows .mixedOrders = true) {f : Nat} {fd : Func} (hf : P.funcs[f]? = some fd) {Post : Value → List HP → Prop} {args : List SV} {hp : List Ck} {cnt : Cnt} {ρ : Env} (hl : Lens ρ cnt)
    {g : F} {s : Prop} (e : runF C f args hp cnt fd = g) (hv : VC P Post g ρ (fun _ => LC.none) = s) (hs : s) (hPu : PureOk P C := by exact PureOk.none rfl) : Meets P f (SV.vals ρ args) (hp.map (Ck.den ρ)) Post := by
  subst e; subst hv
  exact Meets.of_run hT hFT hm hf hl hs hPu
/-- A map's columns, side by side. -/
abbrev mcols (l : List (Nat → List Value)) (i : Nat) : List Value := l.flatMap fun c => c i
end Go.RX

namespace Go.RX

theorem perm_inj {α : Type} {a b : List α} (h : a.Perm b) : ∃ f : Nat → Nat, (∀ i j, f i = f j → i = j) ∧ ∀ (j : Nat) x, b[j]? = some x → a[f j]? = some x := by
  induction h with
  | nil => exact ⟨id, fun _ _ h => h, fun _ _ h => h⟩
  | cons x _ ih =>
    obtain ⟨f, h1, h2⟩ := ih
    refine ⟨fun j => match j with | 0 => 0 | j + 1 => f j + 1, fun i j h => ?_, fun j y hy => ?_⟩
    · cases i <;> cases j <;> simp at h ⊢
      exact h1 _ _ h
    · cases j with
      | zero => simpa using hy
      | succ j => simpa using h2 j y (by simpa using hy)
  | swap x y l =>
    refine ⟨fun j => match j with | 0 => 1 | 1 => 0 | j + 2 => j + 2, fun i j h => ?_, fun j z hz => ?_⟩
    · match i, j, h with
      | 0, 0, _ => rfl
      | 1, 1, _ => rfl
      | 0, 1, h => simp at h
      | 1, 0, h => simp at h
      | 0, j + 2, h => simp at h
      | 1, j + 2, h => simp at h
      | i + 2, 0, h => simp at h
      | i + 2, 1, h => simp at h
      | i + 2, j + 2, h => simpa using h
    · match j, hz with
      | 0, hz => simpa using hz
      | 1, hz => simpa using hz
      | j + 2, hz => simpa using hz
  | trans _ _ ih1 ih2 =>
    obtain ⟨f, f1, f2⟩ := ih1
    obtain ⟨g, g1, g2⟩ := ih2
    exact ⟨fun j => f (g j), fun i j h => g1 _ _ (f1 _ _ h), fun j x hx => f2 _ _ (g2 _ _ hx)⟩
theorem Owns.perm {a b : List HP} {w : World} (h : Owns a w) (hp : a.Perm b) : Owns b w := by
  obtain ⟨f, h1, h2⟩ := perm_inj hp
  refine h.pick' (fun j => some (f j)) (fun j x hx => .inr ⟨f j, rfl, h2 j x hx⟩) ?_
  intro j j' i hj hj' _ _
  cases hj
  simp only [Option.some.injEq] at hj'
  exact h1 _ _ hj'.symm
theorem Ent.perm {a b : List HP} (h : a.Perm b) : Ent a b := fun _ _ o => o.perm (h.append_right _)
theorem Ent.frame {a b : List HP} (h : Ent a b) (r : List HP) : Ent (a ++ r) (b ++ r) := fun w Fs o => by
  rw [List.append_assoc] at o ⊢
  exact h w (r ++ Fs) o

theorem Meets.frame {P : Program} {f : Nat} {args : List Value} {pre : List HP} {post : Value → List HP → Prop} (h : Meets P f args pre post) (r : List HP) :
    Meets P f args (pre ++ r) fun v hs => ∃ hs0, hs = hs0 ++ r ∧ post v hs0 := by
  intro w Fs o
  rw [List.append_assoc] at o
  refine (h w (r ++ Fs) o).mono ?_
  rintro e w' ⟨v, hs, he, hp, ho, hs'⟩
  exact ⟨v, hs ++ r, he, ⟨hs, rfl, hp⟩, by rw [List.append_assoc]; exact ho, hs'⟩

/-- Predicates side by side, as one. -/
def HP.star (l : List HP) : HP where
  wr := true
  p w S := ∃ T, Sep l T w ∧ ∀ k, S k ↔ ∃ i, i < l.length ∧ T i k
  stable w w' S h hk := by
    obtain ⟨T, hT, hS⟩ := h
    refine ⟨T, ⟨fun i x hx => ?_, hT.apart⟩, hS⟩
    have hlt : i < l.length := (List.getElem?_eq_some_iff.1 hx).1
    obtain ⟨hp, hb⟩ := hT.at_ i x hx
    refine ⟨x.stable w w' _ hp fun k hk' => hk k ((hS k).2 ⟨i, hlt, hk'⟩), fun k hk' => ?_⟩
    have := hk k ((hS k).2 ⟨i, hlt, hk'⟩)
    have hsz := hb k hk'
    rw [Array.getElem?_eq_getElem hsz] at this
    exact (Array.getElem?_eq_some_iff.1 this).1

theorem Ent.unstar (l : List HP) : Ent [HP.star l] l := by
  intro w Fs ⟨S, hS⟩
  obtain ⟨⟨T, hT, hTS⟩, hb⟩ := hS.at_ 0 (HP.star l) rfl
  refine ⟨fun i => if i < l.length then T i else S (i - l.length + 1), ⟨?_, ?_⟩⟩
  · intro i x hx
    by_cases hi : i < l.length
    · rw [List.getElem?_append_left hi] at hx
      simp only [hi, if_true]
      exact hT.at_ i x hx
    · rw [List.getElem?_append_right (by omega)] at hx
      simp only [hi, if_false]
      exact hS.at_ (i - l.length + 1) x (by simpa using hx)
  · intro i j x y hne hx hy hw k
    by_cases hi : i < l.length <;> by_cases hj : j < l.length
    · rw [List.getElem?_append_left hi] at hx
      rw [List.getElem?_append_left hj] at hy
      simp only [hi, hj, if_true]
      exact hT.apart i j x y hne hx hy hw k
    · rw [List.getElem?_append_right (by omega)] at hy
      simp only [hi, hj, if_true, if_false]
      intro h1
      exact hS.apart 0 (j - l.length + 1) (HP.star l) y (by omega) rfl (by simpa using hy) (.inl rfl) k ((hTS k).2 ⟨i, hi, h1⟩)
    · rw [List.getElem?_append_right (by omega)] at hx
      simp only [hi, hj, if_true, if_false]
      intro h1 h2
      exact hS.apart 0 (i - l.length + 1) (HP.star l) x (by omega) rfl (by simpa using hx) (.inl rfl) k ((hTS k).2 ⟨j, hj, h2⟩) h1
    · rw [List.getElem?_append_right (by omega)] at hx hy
      simp only [hi, hj, if_false]
      exact hS.apart (i - l.length + 1) (j - l.length + 1) x y (by omega) (by simpa using hx) (by simpa using hy) hw k

theorem Ent.star {l : List HP} (hw : ∀ h ∈ l, h.wr = true) : Ent l [HP.star l] := by
  intro w Fs ⟨S, hS⟩
  refine ⟨fun i => if i = 0 then fun k => ∃ j, j < l.length ∧ S j k else S (i - 1 + l.length), ⟨?_, ?_⟩⟩
  · intro i x hx
    by_cases hi : i = 0
    · subst hi
      simp at hx
      subst hx
      simp only [if_true]
      refine ⟨⟨S, ⟨fun i x hx => ?_, fun i j x y hne hx hy => ?_⟩, fun k => Iff.rfl⟩, ?_⟩
      · exact hS.at_ i x (by rw [List.getElem?_append_left (List.getElem?_eq_some_iff.1 hx).1]; exact hx)
      · exact hS.apart i j x y hne (by rw [List.getElem?_append_left (List.getElem?_eq_some_iff.1 hx).1]; exact hx) (by rw [List.getElem?_append_left (List.getElem?_eq_some_iff.1 hy).1]; exact hy)
      · rintro k ⟨j, hj, hk⟩
        exact (hS.at_ j (l[j]'hj) (by rw [List.getElem?_append_left hj]; exact List.getElem?_eq_getElem hj)).2 k hk
    · have e : i = (i - 1) + 1 := by omega
      rw [e] at hx
      simp only [hi, if_false]
      exact hS.at_ (i - 1 + l.length) x (by rw [List.getElem?_append_right (by omega), show i - 1 + l.length - l.length = i - 1 by omega]; simpa using hx)
  · have key : ∀ (i : Nat) (x : HP), i ≠ 0 → ([HP.star l] ++ Fs)[i]? = some x → (l ++ Fs)[i - 1 + l.length]? = some x := by
      intro i x hi hx
      have e : i = (i - 1) + 1 := by omega
      rw [e] at hx
      rw [List.getElem?_append_right (by omega), show i - 1 + l.length - l.length = i - 1 by omega]
      simpa using hx
    have cross : ∀ (j : Nat) (y : HP) (k : Nat), j ≠ 0 → ([HP.star l] ++ Fs)[j]? = some y → (∃ m, m < l.length ∧ S m k) → ¬ S (j - 1 + l.length) k := by
      rintro j y k hj hy ⟨m, hm, hk⟩
      exact hS.apart m (j - 1 + l.length) (l[m]'hm) y (by omega) (by rw [List.getElem?_append_left hm]; exact List.getElem?_eq_getElem hm) (key j y hj hy) (.inl (hw _ (List.getElem_mem hm))) k hk
    intro i j x y hne hx hy hwr k
    by_cases hi : i = 0 <;> by_cases hj : j = 0
    · omega
    · simp only [hi, hj, if_true, if_false]
      exact cross j y k hj hy
    · simp only [hi, hj, if_true, if_false]
      exact fun h1 h2 => cross i x k hi hx h2 h1
    · simp only [hi, hj, if_false]
      exact hS.apart _ _ x y (by omega) (key i x hi hx) (key j y hj hy) hwr k
theorem Ent.idx' {a b : List HP} (idx : List Nat) (hnd : idx.Nodup) (h : ∀ (j : Nat) x, b[j]? = some x → ∃ i, idx[j]? = some i ∧ a[i]? = some x) : Ent a b := by
  intro w Fs o
  refine o.pick' (fun j => if j < b.length then idx[j]? else some (a.length + (j - b.length))) ?_ ?_
  · intro j x hx
    right
    by_cases hj : j < b.length
    · rw [List.getElem?_append_left hj] at hx
      obtain ⟨i, h1, h2⟩ := h j x hx
      refine ⟨i, by simp only [hj, if_true, h1], ?_⟩
      rw [List.getElem?_append_left (List.getElem?_eq_some_iff.1 h2).1]
      exact h2
    · rw [List.getElem?_append_right (by omega)] at hx
      refine ⟨_, by simp only [hj, if_false]; rfl, ?_⟩
      rw [List.getElem?_append_right (by omega), Nat.add_sub_cancel_left]
      exact hx
  · intro j j' i hj hj' _ _
    by_cases h1 : j < b.length
    · have hx : b[j]? = some b[j] := List.getElem?_eq_getElem h1
      obtain ⟨i1, q1, q2⟩ := h j _ hx
      have hi1 := (List.getElem?_eq_some_iff.1 q2).1
      simp only [h1, if_true, q1, Option.some.injEq] at hj
      subst hj
      by_cases h2 : j' < b.length
      · simp only [h2, if_true] at hj'
        obtain ⟨l1, e1⟩ := List.getElem?_eq_some_iff.1 q1
        obtain ⟨l2, e2⟩ := List.getElem?_eq_some_iff.1 hj'
        exact (List.getElem_inj hnd).1 (e1.trans e2.symm)
      · simp only [h2, if_false, Option.some.injEq] at hj'
        omega
    · simp only [h1, if_false, Option.some.injEq] at hj
      by_cases h2 : j' < b.length
      · have hx : b[j']? = some b[j'] := List.getElem?_eq_getElem h2
        obtain ⟨i1, q1, q2⟩ := h j' _ hx
        have hi1 := (List.getElem?_eq_some_iff.1 q2).1
        simp only [h2, if_true, q1, Option.some.injEq] at hj'
        omega
      · simp only [h2, if_false, Option.some.injEq] at hj'
        omega

/-- A predicate of which some form holds. -/
def HP.ex {α : Type} (F : α → HP) : HP where
  wr := true
  p w S := ∃ a, (F a).p w S
  stable w w' S h hk := by
    obtain ⟨a, ha⟩ := h
    exact ⟨a, (F a).stable w w' S ha hk⟩
theorem Ent.ex {α : Type} {F : α → HP} (a : α) (hw : (F a).wr = true) : Ent [F a] [HP.ex F] := by
  have := Ent.put (a := [F a]) 0 (F a) (HP.ex F) rfl (fun _ => hw) fun w S h => ⟨S, fun _ h => h, ⟨a, h⟩⟩
  simpa using this
theorem Meets.ex {α : Type} {F : α → HP} {P : Program} {f : Nat} {args : List Value} {R : List HP} {post : Value → List HP → Prop} (h : ∀ a, Meets P f args (F a :: R) post) : Meets P f args (HP.ex F :: R) post := by
  intro w Fs ⟨S, hS⟩
  obtain ⟨⟨a, ha⟩, hb⟩ := hS.at_ 0 (HP.ex F) rfl
  refine h a w Fs ⟨S, ⟨fun i x hx => ?_, fun i j x y hne hx hy hw => ?_⟩⟩
  · match i, hx with
    | 0, hx => simp at hx; subst hx; exact ⟨ha, hb⟩
    | i + 1, hx => exact hS.at_ (i + 1) x (by simpa using hx)
  · match i, j, hne, hx, hy with
    | 0, 0, hne, _, _ => exact absurd rfl hne
    | 0, j + 1, _, _, hy => exact hS.apart 0 (j + 1) (HP.ex F) y (by omega) rfl (by simpa using hy) (.inl rfl)
    | i + 1, 0, _, hx, _ => exact hS.apart (i + 1) 0 x (HP.ex F) (by omega) (by simpa using hx) rfl (.inr rfl)
    | i + 1, j + 1, hne, hx, hy => exact hS.apart (i + 1) (j + 1) x y hne (by simpa using hx) (by simpa using hy) hw
end Go.RX
