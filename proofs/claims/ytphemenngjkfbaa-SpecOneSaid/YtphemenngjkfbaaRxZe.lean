/- A reflective symbolic executor, part 28: what memory may be given up for; contracts made weaker. -/
import Derived.Test.YtphemenngjkfbaaRxZt
namespace Go.RX

def Ent (a b : List HP) : Prop := ∀ (w : World) (Fs : List HP), Owns (a ++ Fs) w → Owns (b ++ Fs) w
theorem Ent.refl (a : List HP) : Ent a a := fun _ _ h => h
theorem Ent.trans {a b c : List HP} (h : Ent a b) (k : Ent b c) : Ent a c := fun w Fs o => k w Fs (h w Fs o)

theorem sub_inj {α : Type} {a b : List α} (h : b.Sublist a) : ∃ f : Nat → Nat, (∀ i j, f i = f j → i = j) ∧ ∀ (j : Nat) x, b[j]? = some x → a[f j]? = some x := by
  induction h with
  | slnil => exact ⟨id, fun _ _ h => h, fun _ _ h => h⟩
  | cons x _ ih =>
    obtain ⟨f, h1, h2⟩ := ih
    exact ⟨fun j => f j + 1, fun i j h => h1 i j (by simpa using h), fun j y hy => by simpa using h2 j y hy⟩
  | cons_cons x _ ih =>
    obtain ⟨f, h1, h2⟩ := ih
    refine ⟨fun j => match j with | 0 => 0 | j + 1 => f j + 1, fun i j h => ?_, fun j y hy => ?_⟩
    · cases i <;> cases j <;> simp at h ⊢
      exact h1 _ _ h
    · cases j with
      | zero => simpa using hy
      | succ j => simpa using h2 j y (by simpa using hy)
theorem Owns.sub {a b : List HP} {w : World} (h : Owns a w) (hs : b.Sublist a) : Owns b w := by
  obtain ⟨f, h1, h2⟩ := sub_inj hs
  refine h.pick' (fun j => some (f j)) (fun j x hx => .inr ⟨f j, rfl, h2 j x hx⟩) ?_
  intro j j' i hj hj' _ _
  cases hj
  simp only [Option.some.injEq] at hj'
  exact h1 _ _ hj'.symm
theorem Ent.sub {a b : List HP} (h : b.Sublist a) : Ent a b := fun _ _ o => o.sub (List.Sublist.append h (List.Sublist.refl _))
theorem Ent.put {a : List HP} (i : Nat) (h0 h' : HP) (hi : a[i]? = some h0) (hw : h'.wr = true → h0.wr = true) (hp : ∀ w S, h0.p w S → ∃ S' : Nat → Prop, (∀ k, S' k → S k) ∧ h'.p w S') : Ent a (a.set i h') := by
  intro w Fs ⟨S, hS⟩
  have hlt : i < a.length := (List.getElem?_eq_some_iff.1 hi).1
  obtain ⟨S', h1, h2⟩ := hp _ _ (hS.at_ i h0 (by rw [List.getElem?_append_left hlt]; exact hi)).1
  exact Owns.weaken hS i h0 h' hi hw S' h1 h2

theorem Meets.post {P : Program} {f : Nat} {args : List Value} {pre : List HP} {p q : Value → List HP → Prop} (h : Meets P f args pre p) (hpq : ∀ v hs, p v hs → ∃ hs', Ent hs hs' ∧ q v hs') : Meets P f args pre q := by
  intro w Fs o
  refine (h w Fs o).mono ?_
  rintro e w' ⟨v, hs, he, hp, ho, hs'⟩
  obtain ⟨hs2, h1, h2⟩ := hpq v hs hp
  exact ⟨v, hs2, he, h2, h1 _ _ ho, hs'⟩
theorem Meets.pre {P : Program} {f : Nat} {args : List Value} {pre pre' : List HP} {p : Value → List HP → Prop} (h : Meets P f args pre' p) (he : Ent pre pre') : Meets P f args pre p :=
  fun w Fs o => h w Fs (he _ _ o)

/-- A call without arguments, whose formula holds at sight. -/
theorem Meets.triv {P : Program} {C : Ctx} (hT : checkT P C.T = true) (hFT : FTOk P C.FT) (hm : P.follows .mixedOrders = true) {f : Nat} {fd : Func} (hf : P.funcs[f]? = some fd)
    (h : (runF C f [] [] {} fd).triv = true) : Meets P f [] [] (fun v hs => v = .bool true ∧ hs = []) := by
  have := Meets.of_run (Post := fun v _ => v = .bool true) (ρ := env0) (args := []) (hp := []) hT hFT hm hf (by constructor <;> rfl) (F.triv_sound _ _ h)
  exact this.post fun v hs h => ⟨[], Ent.sub (List.nil_sublist _), h, rfl⟩

/-- A first part of an owned slice. -/
theorem sli_cut {w : World} {t s n k : Nat} {v : Value} {cs : List Value} {S : Nat → Prop} (h : (sliHP true t s v n cs).p w S) (hk : k ≤ n) :
    (sliHP true t s (subSlice s v 0 k none) k (cs.take (k * s))).p w S := by
  have hw := SubAt.whole (ρ := env0) (s := s) (v := v) (n := .lit n) (by simpa [E.den] using sli_whole h)
  have hst := hw.step ⟨.lit 0, .lit k, none⟩ (fun b hb => by
    simp only [cutStep, eAdd] at hb
    have : ∀ (x y : Int), x ≤ y → ∀ b ∈ bLe' (.lit x) (.lit y), b.prop env0 := by
      intro x y hxy b hb
      unfold bLe' at hb
      split at hb
      · cases hb
      · simp [bLe, hxy] at hb
    rcases List.mem_append.1 hb with hb | hb
    · rcases List.mem_append.1 hb with hb | hb
      · exact this 0 0 (Int.le_refl _) b hb
      · exact this 0 k (by omega) b hb
    · exact this (0 + k) n (by omega) b hb)
  have hsub := hst.1
  obtain ⟨hown, hblk⟩ := h
  simp only [if_true] at hown
  have hx : subSlice s v (E.den env0 (.lit 0) 0).toNat (E.den env0 (.lit k) 0).toNat (Option.map (fun m => (E.den env0 m 0).toNat) none) = subSlice s v 0 k none := by simp [E.den]
  rw [hx] at hsub
  have hln : ((E.lit (n : Int)).den env0 0).toNat = n := by simp [E.den]
  rw [← hln] at hown
  obtain ⟨o1, o2⟩ := ownsAt_part hsub (by simp [cutStep, eSub, E.den]) hown
  rw [show ((cutStep (.lit (n : Int)) ⟨.lit 0, .lit (n : Int), none⟩ ⟨.lit 0, .lit (k : Int), none⟩).1.lo.den env0 0).toNat = 0 by simp [cutStep, eAdd, E.den], Nat.zero_mul, List.drop_zero] at o1
  have hlk : ((cutStep (.lit (n : Int)) ⟨.lit 0, .lit (n : Int), none⟩ ⟨.lit 0, .lit (k : Int), none⟩).1.len.den env0 0).toNat = k := by simp [cutStep, eSub, E.den]
  rw [hlk] at o1
  refine ⟨?_, fun q => ?_⟩
  · simp only [if_true]; exact o1
  · rw [o2, hblk q]; simp

/-- An owned slice may be looked at alone. -/
theorem sli_look {w : World} {t s n : Nat} {v : Value} {cs : List Value} {S : Nat → Prop} (h : (sliHP true t s v n cs).p w S) : (sliHP false t s v n cs).p w (fun k => S k ∧ 0 < n) := by
  obtain ⟨hv, hl⟩ := sli_views h
  refine ⟨by simp only [Bool.false_eq_true, if_false]; exact ⟨hl, hv⟩, fun k => ?_⟩
  show (S k ∧ 0 < n) ↔ _
  rw [h.2 k]
  simp

/-- A slice of integers that came in. -/
def IsRow (k : IntKind) (w : World) (a : Option Addr) (len cap : Nat) (zs : List Int) : Prop :=
  (a = none ∧ len = 0 ∧ cap = 0 ∧ zs = []) ∨
  ∃ x, a = some x ∧ len ≤ cap ∧ cap ≤ maxLen ∧ zs.length = cap ∧ (∀ i, i < zs.length → w.cell? (x.add i) = some (.int k (zs.getD i 0))) ∧ ∀ n ∈ zs, (Lit.int k n).wf = true

theorem tabI_congr {k : IntKind} {n : Nat} {f g : Nat → Int} (h : ∀ i, i < n → f i = g i) : tabL n [colI k 1 f] = tabL n [colI k 1 g] := by
  unfold tabL
  rw [List.flatMap_def, List.flatMap_def]
  congr 1
  refine List.map_congr_left fun i hi => ?_
  have := h i (List.mem_range.1 hi)
  simp [colI, segCells, this]
theorem tabI_eq (k : IntKind) (n : Nat) (f : Nat → Int) : tabL n [colI k 1 f] = segCells k n f := by
  unfold tabL segCells
  induction n with
  | zero => rfl
  | succ n ih =>
    rw [List.range_succ, List.flatMap_append, List.map_append, ih]
    simp [colI, segCells]
theorem tabI_take (k : IntKind) (n m : Nat) (f : Nat → Int) (h : m ≤ n) : (tabL n [colI k 1 f]).take (m * 1) = tabL m [colI k 1 f] := by
  rw [tabI_eq, tabI_eq, Nat.mul_one, segCells_take k n m f h]

theorem views_row {k : IntKind} {w : World} {a : Option Addr} {len cap : Nat} {zs : List Int} (h : IsRow k w a len cap zs) (t : Nat) :
    (sliHP false t 1 (.slice a len cap) len (tabL len [colI k 1 fun i => zs.getD i 0])).p w (fun b => (Value.slice a len cap).ownBlock = some b ∧ 0 < len) ∧
      ∀ b, (Value.slice a len cap).ownBlock = some b ∧ 0 < len → b < w.heap.size := by
  refine ⟨⟨?_, fun b => by simp⟩, ?_⟩
  · simp only [Bool.false_eq_true, if_false]
    rw [tabI_eq]
    refine ⟨by simp [segCells_length], a, len, cap, rfl, rfl, ?_, ?_, ?_⟩
    · rcases h with ⟨_, rfl, rfl, _⟩ | ⟨x, _, h, _⟩
      · exact Nat.le_refl _
      · exact h
    · rintro rfl
      rcases h with ⟨_, h, _⟩ | ⟨x, h, _⟩
      · exact h
      · cases h
    · rintro ad rfl
      rcases h with ⟨h, _⟩ | ⟨x, h, hl, _, hz, hc, _⟩
      · cases h
      · cases h
        constructor
        · intro hpos
          have h0 := hc 0 (by omega)
          rw [addr_add_zero] at h0
          exact World.cell?_spot h0
        · intro j u hu
          rw [segCells_getElem?] at hu
          split at hu
          · rename_i hj
            rw [hc j (by omega), ← hu]
          · cases hu
  · rintro b ⟨hb, hpos⟩
    rcases h with ⟨rfl, rfl, _⟩ | ⟨x, rfl, hl, _, hz, hc, _⟩
    · omega
    · simp only [Value.ownBlock, Option.some.injEq] at hb
      subst hb
      have := World.block_lt_of_cell? w (x.add 0) (hc 0 (by omega))
      rw [addr_add_zero] at this
      exact this

theorem owns_row {k : IntKind} {w : World} {a : Option Addr} {len cap : Nat} {zs : List Int} (h : IsRow k w a len cap zs) (t : Nat) :
    Owns ([sliHP false t 1 (.slice a len cap) len (tabL len [colI k 1 fun i => zs.getD i 0])] ++ [keptHP w.heap.size w]) w := by
  obtain ⟨h1, h2⟩ := views_row h t
  refine ⟨fun i b => if i = 0 then (Value.slice a len cap).ownBlock = some b ∧ 0 < len else b < w.heap.size, ⟨?_, ?_⟩⟩
  · intro i hp hi
    match i, hi with
    | 0, hi => simp at hi; subst hi; exact ⟨h1, h2⟩
    | 1, hi => simp at hi; subst hi; exact ⟨⟨fun _ => Iff.rfl, fun _ _ => rfl⟩, fun _ h => h⟩
    | i + 2, hi => simp at hi
  · intro i j x y hne hi hj hwr
    exfalso
    have key : ∀ (i : Nat) (x : HP), ([sliHP false t 1 (.slice a len cap) len (tabL len [colI k 1 fun i => zs.getD i 0])] ++ [keptHP w.heap.size w])[i]? = some x → x.wr = false := by
      intro i x hi
      match i, hi with
      | 0, hi => simp at hi; subst hi; rfl
      | 1, hi => simp at hi; subst hi; rfl
      | i + 2, hi => simp at hi
    rw [key i x hi, key j y hj] at hwr
    simp at hwr
end Go.RX
