/- What library functions are known to do, at sight, where moves are read and printed: for the executor. · What the executor is told of the calls and loops of the program's side of AuditLines. · What the executor is told of the calls and loops of the printing of moves. · A reflective symbolic executor, part 28: what memory may be given up for; contracts made weaker. · A reflective symbolic executor: a printed formula az a contract, argument by argument. · A reflective symbolic executor: predicates put together to one, and in another order; frames of contracts. · A reflective symbolic executor, part 32: formulas that hold at sight, with ways that meet again. · A reflective symbolic executor, part 33: formulas that hold at sight, checked branch by branch; an answer that is told. · A reflective symbolic executor: strings in printed formulas; calls of whose memory nothing is told. · A reflective symbolic executor: calls that look at memory alone. -/
import Derived.Test.YtgaabcinjbjbgaaDoorM25
import Derived.Lib.ItoaNum
import Derived.Lib.ParseIntB
import Derived.Lib.AtoiAll

namespace Go.RX.Sc
open Go.RX Go.RX.Au
def catB (a n : E) (s : SV) (e : E) : E :=
  match litNat n, s with
  | some k, .str l =>
    match litsOf a k with
    | some xs => .rowl (xs ++ l.map fun b => (b.toNat : Int))
    | none => .spl a n (eLen e) (eSby e)
  | _, _ => .spl a n (eLen e) (eSby e)
def pWriteStr (az : List SV) (hp : List Ck) : Option PRes :=
  match az with
  | [.ptr b 0, s] =>
    match findBld hp b, toStrE s with
    | some (j, 47, 5, n, a), some e => some { val := .tup [.int .i64 (eLen e), .nili], vcs := bLe' (.lit 0) n ++ bLe' (.lit 0) (eLen e) ++ bLe' (eAdd n (eLen e)) (.lit 140737488355328), use := [j], new := [.bld b 47 5 (eAdd n (eLen e)) (catB a n s e)] }
    | _, _ => none
  | _ => none
def pLen (az : List SV) (hp : List Ck) : Option PRes :=
  match az with
  | [.ptr b 0] =>
    match findBld hp b with
    | some (j, 47, 5, n, a) => some { val := .int .i64 n, vcs := bLe' (.lit 0) n, use := [j], new := [.bld b 47 5 n a] }
    | _ => none
  | _ => none
def pSmall (az : List SV) (_ : List Ck) : Option PRes :=
  match az with
  | [.int .i64 (.lit (.ofNat n))] => if n < 100 then some { val := .str (Lib.decDigits n) } else none
  | _ => none
def pAtoi (az : List SV) (_ : List Ck) : Option PRes :=
  match az with
  | [.str l] => match Lib.atoiAll l with
    | .ok v => if l.length ≤ 100 then some { val := .tup [.int .i64 (.lit v), .nili] } else none
    | _ => none
  | _ => none
def pParse (az : List SV) (_ : List Ck) : Option PRes :=
  match az with
  | [.str l, .int .i64 (.lit 10), .int .i64 (.lit 8)] => match Lib.parseUintB 8 l with
    | .ok v => if l.length ≤ 100 then some { val := .tup [.int .u64 (.lit v), .nili] } else none
    | _ => none
  | _ => none
def strsAt (a : E) (n : Nat) : List E := (List.range n).map fun (j : Nat) => eAt2 a (.lit (j : Int))
def strLit : E → Option (List UInt8)
  | .rowl l => match mkStr (.rowl l) with
    | .str l => some l
    | _ => none
  | _ => none
def strLits : List E → Option (List (List UInt8))
  | [] => some []
  | e :: r => match strLit e, strLits r with
    | some l, some ls => some (l :: ls)
    | _, _ => none
def catAll (sep : E) : List E → E
  | [] => .rowl [0]
  | [x] => x
  | x :: y :: r => eCat (eCat x sep) (catAll sep (y :: r))
def lenAll (sep : Nat) : List E → E
  | [] => .lit 0
  | [x] => eLen x
  | x :: y :: r => eAdd (eAdd (eLen x) (.lit sep)) (lenAll sep (y :: r))
def pJoinS (az : List SV) (hp : List Ck) : Option PRes :=
  match az with
  | [.vv v, .str sep] =>
    match findOwn hp v with
    | some (j, .sli md v' 9 1 (.lit (.ofNat n)) [⟨.str, 1, a⟩]) =>
      if 1 ≤ n ∧ n ≤ 1000 ∧ sep.length ≤ 1000 then
        match strLits (strsAt a n) with
        | some xs => if (joinL sep xs).length ≤ 1000000 then some { val := .str (joinL sep xs), use := [j], new := [.sli md v' 9 1 (.lit n) [⟨.str, 1, a⟩]] } else none
        | none => some { val := .strE (catAll (rowB sep) (strsAt a n)), vcs := ((strsAt a n).flatMap fun s => bLe' (.lit 0) (eLen s)) ++ bLe' (lenAll sep.length (strsAt a n)) (.lit 140737488355328), use := [j], new := [.sli md v' 9 1 (.lit n) [⟨.str, 1, a⟩]] }
      else none
    | _ => none
  | az => pJoin az hp
def pure (f : Nat) : Option (List SV → List Ck → Option PRes) :=
  match f with
  | 13 => some pWriteStr
  | 14 => some pLen
  | 25 => some pJoinS
  | 56 => some pSmall
  | 51 => some pAtoi
  | 69 => some pParse
  | f => Au.pure f
end Go.RX.Sc

namespace Go.RX.Lp
open Go.RX
def absIdx (hp : List Ck) : List Nat :=
  match hp.findIdx? (fun c => match c with | .abs _ => true | _ => false) with
  | some i => [i]
  | none => []
def rowIdx (az : List SV) (hp : List Ck) : List Nat :=
  match az with
  | .sl b _ _ _ _ :: _ => match hp.findIdx? (fun c => match c with | .row b' .. => b == b' | _ => false) with
    | some i => [i]
    | none => []
  | _ => []
def strCall : CallAnn := { use := fun _ hp => absIdx hp, inc := { a := 1 }, val := fun c => .strE (.avar c.a), new := fun _ h => h }
end Go.RX.Lp

namespace Go.RX.Sp
open Go.RX Go.RX.Lp
def sliIdx (az : List SV) (hp : List Ck) : List Nat :=
  match az with
  | .vv v :: _ => match hp.findIdx? (fun c => match c with | .sli _ v' .. => v == v' | _ => false) with
    | some i => [i]
    | none => []
  | _ => []
def bldIdx (az : List SV) (hp : List Ck) : List Nat :=
  match az with
  | .ptr b _ :: _ => match hp.findIdx? (fun c => match c with | .bld b' .. => b == b' | _ => false) with
    | some i => [i]
    | none => []
  | _ => []
def hexCall : CallAnn := { use := sliIdx, inc := { a := 1 }, val := fun c => .strE (.avar c.a), new := fun _ h => h }
def strBld : CallAnn := { use := bldIdx, inc := { a := 1 }, val := fun c => .strE (.avar c.a), new := fun _ _ => [] }
def calleesL (f : Nat) : Option CallAnn :=
  match f with
  | 35 => some strCall
  | 22 => some strCall
  | 24 => some hexCall
  | _ => none
def callsH (f d : Nat) : Option CallAnn :=
  match f, d with
  | 24, 24 => some strBld
  | _, _ => none
def bldNew (c : Cnt) : Ck → Ck
  | .bld b t e _ _ => .bld b t e (.var (c.i + 1)) (.avar c.a)
  | h => h
def loopsH (f id : Nat) : Option LoopAnn :=
  match f, id with
  | 24, 0 => some { inc := { i := 2, a := 1 }, slots := fun c => [(11, .int .i64 (.var c.i))], hp := fun c h => h.map (bldNew c) }
  | _, _ => none
def calleesR (f : Nat) : Option CallAnn :=
  match f with
  | _ => none
def loopsR (f id : Nat) : Option LoopAnn :=
  match f, id with
  | _, _ => none
def noForm : CallAnn := { use := fun _ _ => [], val := fun _ => .tup [.str [], .str [], .bool (.lit false)], new := fun _ h => h }
def calls0 (f d : Nat) : Option CallAnn :=
  match f, d with
  | 12, 14 => some noForm
  | _, _ => none
end Go.RX.Sp

namespace Go.RX
def Ent (a b : List HP) : Prop := ∀ (w : World) (Fs : List HP), Owns (a ++ Fs) w → Owns (b ++ Fs) w
theorem Ent.refl (a : List HP) : Ent a a := fun _ _ h => h
theorem Ent.trans {a b c : List HP} (h : Ent a b) (k : Ent b c) : Ent a c := fun w Fs o => k w Fs (h w Fs o)
theorem sub_inj {α : Type} {a b : List α} (h : b.Sublist a) : ∃ f : Nat → Nat, (∀ i j, f i = f j → i = j) ∧ ∀ (j : Nat) x, b[j]? = some x → a[f j]? = some x := by
  induction h with
  | slnil => exact ⟨id, fun _ _ h => h, fun _ _ h => h⟩
  | cons x _ ih =>
    obtain ⟨f, h1, h2⟩ := ih
    exact ⟨fun j => f j + 1, fun i j h => h1 i j (by simpa using h), fun j y hy => by simpa using h2 j y hy⟩
  | cons_cons x _ ih =>
    obtain ⟨f, h1, h2⟩ := ih
    refine ⟨fun j => match j with | 0 => 0 | j + 1 => f j + 1, fun i j h => ?_, fun j y hy => ?_⟩
    · cases i <;> cases j <;> simp at h ⊢
      exact h1 _ _ h
    · cases j with
      | zero => simpa using hy
      | succ j => simpa using h2 j y (by simpa using hy)
theorem Owns.sub {a b : List HP} {w : World} (h : Owns a w) (hs : b.Sublist a) : Owns b w := by
  obtain ⟨f, h1, h2⟩ := sub_inj hs
  refine h.pick' (fun j => some (f j)) (fun j x hx => .inr ⟨f j, rfl, h2 j x hx⟩) ?_
  intro j j' i hj hj' _ _
  cases hj
  simp only [Option.some.injEq] at hj'
  exact h1 _ _ hj'.symm
theorem Ent.sub {a b : List HP} (h : b.Sublist a) : Ent a b := fun _ _ o => o.sub (List.Sublist.append h (List.Sublist.refl _))
theorem Ent.put {a : List HP} (i : Nat) (h0 h' : HP) (hi : a[i]? = some h0) (hw : h'.wr = true → h0.wr = true) (hp : ∀ w S, h0.p w S → ∃ S' : Nat → Prop, (∀ k, S' k → S k) ∧ h'.p w S') : Ent a (a.set i h') := by
  intro w Fs ⟨S, hS⟩
  have hlt : i < a.length := (List.getElem?_eq_some_iff.1 hi).1
  obtain ⟨S', h1, h2⟩ := hp _ _ (hS.at_ i h0 (by rw [List.getElem?_append_left hlt]; exact hi)).1
  exact Owns.weaken hS i h0 h' hi hw S' h1 h2
theorem Meets.post {P : Program} {f : Nat} {args : List Value} {pre : List HP} {p q : Value → List HP → Prop} (h : Meets P f args pre p) (hpq : ∀ v hs, p v hs → ∃ hs', Ent hs hs' ∧ q v hs') : Meets P f args pre q := by
  intro w Fs o
  refine (h w Fs o).mono ?_
  rintro e w' ⟨v, hs, he, hp, ho, hs'⟩
  obtain ⟨hs2, h1, h2⟩ := hpq v hs hp
  exact ⟨v, hs2, he, h2, h1 _ _ ho, hs'⟩
theorem Meets.pre {P : Program} {f : Nat} {args : List Value} {pre pre' : List HP} {p : Value → List HP → Prop} (h : Meets P f args pre' p) (he : Ent pre pre') : Meets P f args pre p :=
  fun w Fs o => h w Fs (he _ _ o)
end Go.RX

namespace Go.RX
theorem Meets.of_runE {P : Program} {C : Ctx} (hT : checkT P C.T = true) (hFT : FTOk P C.FT) (hm : P.follows .mixedOrders = true) {f : Nat} {fd : Func} (hf : P.funcs[f]? = some fd) {Post : Value → List HP → Prop} {args : List SV} {hp : List Ck} {cnt : Cnt} {ρ : Env} (hl : Lens ρ cnt)
    {g : F} {s : Prop} (e : runF C f args hp cnt fd = g) (hv : VC P Post g ρ (fun _ => LC.none) = s) (hs : s) (hPu : PureOk P C := by exact PureOk.none rfl) : Meets P f (SV.vals ρ args) (hp.map (Ck.den ρ)) Post := by
  subst e; subst hv
  exact Meets.of_run hT hFT hm hf hl hs hPu
end Go.RX

namespace Go.RX
theorem perm_inj {α : Type} {a b : List α} (h : a.Perm b) : ∃ f : Nat → Nat, (∀ i j, f i = f j → i = j) ∧ ∀ (j : Nat) x, b[j]? = some x → a[f j]? = some x := by
  induction h with
  | nil => exact ⟨id, fun _ _ h => h, fun _ _ h => h⟩
  | cons x _ ih =>
    obtain ⟨f, h1, h2⟩ := ih
    refine ⟨fun j => match j with | 0 => 0 | j + 1 => f j + 1, fun i j h => ?_, fun j y hy => ?_⟩
    · cases i <;> cases j <;> simp at h ⊢
      exact h1 _ _ h
    · cases j with
      | zero => simpa using hy
      | succ j => simpa using h2 j y (by simpa using hy)
  | swap x y l =>
    refine ⟨fun j => match j with | 0 => 1 | 1 => 0 | j + 2 => j + 2, fun i j h => ?_, fun j z hz => ?_⟩
    · match i, j, h with
      | 0, 0, _ => rfl
      | 1, 1, _ => rfl
      | 0, 1, h => simp at h
      | 1, 0, h => simp at h
      | 0, j + 2, h => simp at h
      | 1, j + 2, h => simp at h
      | i + 2, 0, h => simp at h
      | i + 2, 1, h => simp at h
      | i + 2, j + 2, h => simpa using h
    · match j, hz with
      | 0, hz => simpa using hz
      | 1, hz => simpa using hz
      | j + 2, hz => simpa using hz
  | trans _ _ ih1 ih2 =>
    obtain ⟨f, f1, f2⟩ := ih1
    obtain ⟨g, g1, g2⟩ := ih2
    exact ⟨fun j => f (g j), fun i j h => g1 _ _ (f1 _ _ h), fun j x hx => f2 _ _ (g2 _ _ hx)⟩
theorem Owns.perm {a b : List HP} {w : World} (h : Owns a w) (hp : a.Perm b) : Owns b w := by
  obtain ⟨f, h1, h2⟩ := perm_inj hp
  refine h.pick' (fun j => some (f j)) (fun j x hx => .inr ⟨f j, rfl, h2 j x hx⟩) ?_
  intro j j' i hj hj' _ _
  cases hj
  simp only [Option.some.injEq] at hj'
  exact h1 _ _ hj'.symm
theorem Ent.perm {a b : List HP} (h : a.Perm b) : Ent a b := fun _ _ o => o.perm (h.append_right _)
theorem Ent.frame {a b : List HP} (h : Ent a b) (r : List HP) : Ent (a ++ r) (b ++ r) := fun w Fs o => by
  rw [List.append_assoc] at o ⊢
  exact h w (r ++ Fs) o
theorem Meets.frame {P : Program} {f : Nat} {args : List Value} {pre : List HP} {post : Value → List HP → Prop} (h : Meets P f args pre post) (r : List HP) :
    Meets P f args (pre ++ r) fun v hs => ∃ hs0, hs = hs0 ++ r ∧ post v hs0 := by
  intro w Fs o
  rw [List.append_assoc] at o
  refine (h w (r ++ Fs) o).mono ?_
  rintro e w' ⟨v, hs, he, hp, ho, hs'⟩
  exact ⟨v, hs ++ r, he, ⟨hs, rfl, hp⟩, by rw [List.append_assoc]; exact ho, hs'⟩
def HP.star (l : List HP) : HP where
  wr := true
  p w S := ∃ T, Sep l T w ∧ ∀ k, S k ↔ ∃ i, i < l.length ∧ T i k
  stable w w' S h hk := by
    obtain ⟨T, hT, hS⟩ := h
    refine ⟨T, ⟨fun i x hx => ?_, hT.apart⟩, hS⟩
    have hlt : i < l.length := (List.getElem?_eq_some_iff.1 hx).1
    obtain ⟨hp, hb⟩ := hT.at_ i x hx
    refine ⟨x.stable w w' _ hp fun k hk' => hk k ((hS k).2 ⟨i, hlt, hk'⟩), fun k hk' => ?_⟩
    have := hk k ((hS k).2 ⟨i, hlt, hk'⟩)
    have hsz := hb k hk'
    rw [Array.getElem?_eq_getElem hsz] at this
    exact (Array.getElem?_eq_some_iff.1 this).1
theorem Ent.unstar (l : List HP) : Ent [HP.star l] l := by
  intro w Fs ⟨S, hS⟩
  obtain ⟨⟨T, hT, hTS⟩, hb⟩ := hS.at_ 0 (HP.star l) rfl
  refine ⟨fun i => if i < l.length then T i else S (i - l.length + 1), ⟨?_, ?_⟩⟩
  · intro i x hx
    by_cases hi : i < l.length
    · rw [List.getElem?_append_left hi] at hx
      simp only [hi, if_true]
      exact hT.at_ i x hx
    · rw [List.getElem?_append_right (by omega)] at hx
      simp only [hi, if_false]
      exact hS.at_ (i - l.length + 1) x (by simpa using hx)
  · intro i j x y hne hx hy hw k
    by_cases hi : i < l.length <;> by_cases hj : j < l.length
    · rw [List.getElem?_append_left hi] at hx
      rw [List.getElem?_append_left hj] at hy
      simp only [hi, hj, if_true]
      exact hT.apart i j x y hne hx hy hw k
    · rw [List.getElem?_append_right (by omega)] at hy
      simp only [hi, hj, if_true, if_false]
      intro h1
      exact hS.apart 0 (j - l.length + 1) (HP.star l) y (by omega) rfl (by simpa using hy) (.inl rfl) k ((hTS k).2 ⟨i, hi, h1⟩)
    · rw [List.getElem?_append_right (by omega)] at hx
      simp only [hi, hj, if_true, if_false]
      intro h1 h2
      exact hS.apart 0 (i - l.length + 1) (HP.star l) x (by omega) rfl (by simpa using hx) (.inl rfl) k ((hTS k).2 ⟨j, hj, h2⟩) h1
    · rw [List.getElem?_append_right (by omega)] at hx hy
      simp only [hi, hj, if_false]
      exact hS.apart (i - l.length + 1) (j - l.length + 1) x y (by omega) (by simpa using hx) (by simpa using hy) hw k
theorem Ent.star {l : List HP} (hw : ∀ h ∈ l, h.wr = true) : Ent l [HP.star l] := by
  intro w Fs ⟨S, hS⟩
  refine ⟨fun i => if i = 0 then fun k => ∃ j, j < l.length ∧ S j k else S (i - 1 + l.length), ⟨?_, ?_⟩⟩
  · intro i x hx
    by_cases hi : i = 0
    · subst hi
      simp at hx
      subst hx
      simp only [if_true]
      refine ⟨⟨S, ⟨fun i x hx => ?_, fun i j x y hne hx hy => ?_⟩, fun k => Iff.rfl⟩, ?_⟩
      · exact hS.at_ i x (by rw [List.getElem?_append_left (List.getElem?_eq_some_iff.1 hx).1]; exact hx)
      · exact hS.apart i j x y hne (by rw [List.getElem?_append_left (List.getElem?_eq_some_iff.1 hx).1]; exact hx) (by rw [List.getElem?_append_left (List.getElem?_eq_some_iff.1 hy).1]; exact hy)
      · rintro k ⟨j, hj, hk⟩
        exact (hS.at_ j (l[j]'hj) (by rw [List.getElem?_append_left hj]; exact List.getElem?_eq_getElem hj)).2 k hk
    · have e : i = (i - 1) + 1 := by omega
      rw [e] at hx
      simp only [hi, if_false]
      exact hS.at_ (i - 1 + l.length) x (by rw [List.getElem?_append_right (by omega), show i - 1 + l.length - l.length = i - 1 by omega]; simpa using hx)
  · have key : ∀ (i : Nat) (x : HP), i ≠ 0 → ([HP.star l] ++ Fs)[i]? = some x → (l ++ Fs)[i - 1 + l.length]? = some x := by
      intro i x hi hx
      have e : i = (i - 1) + 1 := by omega
      rw [e] at hx
      rw [List.getElem?_append_right (by omega), show i - 1 + l.length - l.length = i - 1 by omega]
      simpa using hx
    have cross : ∀ (j : Nat) (y : HP) (k : Nat), j ≠ 0 → ([HP.star l] ++ Fs)[j]? = some y → (∃ m, m < l.length ∧ S m k) → ¬ S (j - 1 + l.length) k := by
      rintro j y k hj hy ⟨m, hm, hk⟩
      exact hS.apart m (j - 1 + l.length) (l[m]'hm) y (by omega) (by rw [List.getElem?_append_left hm]; exact List.getElem?_eq_getElem hm) (key j y hj hy) (.inl (hw _ (List.getElem_mem hm))) k hk
    intro i j x y hne hx hy hwr k
    by_cases hi : i = 0 <;> by_cases hj : j = 0
    · omega
    · simp only [hi, hj, if_true, if_false]
      exact cross j y k hj hy
    · simp only [hi, hj, if_true, if_false]
      exact fun h1 h2 => cross i x k hi hx h2 h1
    · simp only [hi, hj, if_false]
      exact hS.apart _ _ x y (by omega) (key i x hi hx) (key j y hj hy) hwr k
def HP.ex {α : Type} (F : α → HP) : HP where
  wr := true
  p w S := ∃ a, (F a).p w S
  stable w w' S h hk := by
    obtain ⟨a, ha⟩ := h
    exact ⟨a, (F a).stable w w' S ha hk⟩
theorem Ent.ex {α : Type} {F : α → HP} (a : α) (hw : (F a).wr = true) : Ent [F a] [HP.ex F] := by
  have := Ent.put (a := [F a]) 0 (F a) (HP.ex F) rfl (fun _ => hw) fun w S h => ⟨S, fun _ h => h, ⟨a, h⟩⟩
  simpa using this
theorem Meets.ex {α : Type} {F : α → HP} {P : Program} {f : Nat} {args : List Value} {R : List HP} {post : Value → List HP → Prop} (h : ∀ a, Meets P f args (F a :: R) post) : Meets P f args (HP.ex F :: R) post := by
  intro w Fs ⟨S, hS⟩
  obtain ⟨⟨a, ha⟩, hb⟩ := hS.at_ 0 (HP.ex F) rfl
  refine h a w Fs ⟨S, ⟨fun i x hx => ?_, fun i j x y hne hx hy hw => ?_⟩⟩
  · match i, hx with
    | 0, hx => simp at hx; subst hx; exact ⟨ha, hb⟩
    | i + 1, hx => exact hS.at_ (i + 1) x (by simpa using hx)
  · match i, j, hne, hx, hy with
    | 0, 0, hne, _, _ => exact absurd rfl hne
    | 0, j + 1, _, _, hy => exact hS.apart 0 (j + 1) (HP.ex F) y (by omega) rfl (by simpa using hy) (.inl rfl)
    | i + 1, 0, _, hx, _ => exact hS.apart (i + 1) 0 x (HP.ex F) (by omega) (by simpa using hx) rfl (.inr rfl)
    | i + 1, j + 1, hne, hx, hy => exact hS.apart (i + 1) (j + 1) x y hne (by simpa using hx) (by simpa using hy) hw
end Go.RX

namespace Go.RX
def E.closed (e : E) : Bool := e.sc {}
def pickVq (i : Nat) : List Eq2 → Option Nat
  | [] => none
  | .v i' j :: r => if i' = i then some j else pickVq i r
  | _ :: r => pickVq i r
def pickBq (i : Nat) : List Eq2 → Option Nat
  | [] => none
  | .bl i' j :: r => if i' = i then some j else pickBq i r
  | _ :: r => pickBq i r
def eqOk (c0 inc : Cnt) (all : List Eq2) : Eq2 → Bool
  | .e a b => a.closed && b.closed && a.den env0 0 == b.den env0 0
  | .a n a b => n.closed && a.closed && b.closed && (List.range (n.den env0 0).toNat).all fun j => a.den env0 j == b.den env0 j
  | .b a b => a.sc {} && b.sc {} && a.den env0 == b.den env0
  | .v i j => Nat.ble c0.v i && Nat.blt i (c0.v + inc.v) && pickVq i all == some j
  | .bl i j => Nat.ble c0.b i && Nat.blt i (c0.b + inc.b) && pickBq i all == some j
  | _ => false
def Cnt.only (c : Cnt) : Bool := c.i == 0 && c.a == 0 && c.bo == 0 && c.p == 0 && c.r == 0
def meetOk (cnt c0 inc : Cnt) (eqs : List Eq2) : Bool :=
  inc.only && Nat.ble c0.b cnt.b && Nat.ble c0.v cnt.v && eqs.all (eqOk c0 inc eqs)
def F.triv2 (ups : List Nat) (cnt : Cnt) : F → Bool
  | .vc b r => b.sure && r.triv2 ups cnt
  | .fork c t e => match c.surely with
    | some true => t.triv2 ups cnt
    | some false => e.triv2 ups cnt
    | none => t.triv2 ups cnt && e.triv2 ups cnt
  | .ret (.bool b) _ => b.sure
  | .allB r => r.triv2 ups { cnt with b := cnt.b + 1 }
  | .allV r => r.triv2 ups { cnt with v := cnt.v + 1 }
  | .nilV r => r.triv2 ups { cnt with v := cnt.v + 1 }
  | .allRec true r => r.triv2 ups { cnt with b := cnt.b + 2, r := cnt.r + 1 }
  | .allRec false r => r.triv2 ups { cnt with b := cnt.b + 1, r := cnt.r + 1 }
  | .both a b => a.triv2 ups cnt && b.triv2 ups cnt
  | .join up inc body r => body.triv2 (up :: ups) cnt && r.triv2 ups (cnt.add inc)
  | .meet up c0 inc eqs => ups.contains up && meetOk cnt c0 inc eqs
  | _ => false
theorem closedE_den {e : E} (h : e.closed = true) (ρ : Env) (j : Nat) : e.den ρ j = e.den env0 j := by
  have h1 : (BE.eq (.sel e (.lit j)) (.lit 0)).sc {} = true := by simp [BE.sc, E.sc]; exact h
  have e1 : Agree {} ρ { ρ with iv := [], av := [], bo := [], bv := [], vv := [], pv := [], lr := [] } := by
    constructor <;> first | rfl | (intro i hi; simp at hi)
  have e2 : Agree {} env0 { env0 with va := ρ.va } → True := fun _ => trivial
  clear e2 h1
  induction e generalizing j with
  | lit n => rfl
  | var i => simp [E.closed, E.sc] at h
  | avar i => simp [E.closed, E.sc] at h
  | sel a i iha ihi => simp only [E.closed, E.sc, Bool.and_eq_true] at h; simp only [E.den, iha h.1, ihi h.2]
  | bin o k a b iha ihb => simp only [E.closed, E.sc, Bool.and_eq_true] at h; simp only [E.den, iha h.1, ihb h.2]
  | wrap k a ih => simp only [E.closed, E.sc] at h; simp only [E.den, ih h]
  | upd a i v iha ihi ihv => simp only [E.closed, E.sc, Bool.and_eq_true] at h; simp only [E.den, iha h.1.1, ihi h.1.2, ihv h.2]
  | shift a o iha iho => simp only [E.closed, E.sc, Bool.and_eq_true] at h; simp only [E.den, iha h.1, iho h.2]
  | spl a o n b iha iho ihn ihb => simp only [E.closed, E.sc, Bool.and_eq_true] at h; simp only [E.den, iha h.1.1.1, iho h.1.1.2, ihn h.1.2, ihb h.2]
  | kc n a ih => simp only [E.closed, E.sc] at h; simp only [E.den]; rw [List.map_congr_left fun i _ => ih h i]
  | blk b => simp [E.closed, E.sc] at h
  | rowl l => rfl
  | at2 a i iha ihi => simp only [E.closed, E.sc, Bool.and_eq_true] at h; simp only [E.den, at2F, iha h.1, ihi h.2]
  | put2 a i s iha ihi ihs => simp only [E.closed, E.sc, Bool.and_eq_true] at h; simp only [E.den, put2F, iha h.1.1, ihi h.1.2, ihs h.2]
  | sby s ih => simp only [E.closed, E.sc] at h; simp only [E.den, sbyF, ih h]
def wit (ρ : Env) (c0 inc : Cnt) (eqs : List Eq2) : Ext :=
  ⟨(List.range inc.b).map fun k => ρ.bv.getD ((pickBq (c0.b + k) eqs).getD 0) 0, (List.range inc.v).map fun k => ρ.vv.getD ((pickVq (c0.v + k) eqs).getD 0) V1.nil, [], [], [], [], []⟩
theorem take_getD {α : Type} (l : List α) (c n i : Nat) (d : α) (f : Nat → α) (hc : c ≤ l.length) (h1 : c ≤ i) (h2 : i < c + n) : (l.take c ++ (List.range n).map f).getD i d = f (i - c) := by
  rw [List.getD_eq_getElem?_getD, List.getElem?_append_right (by simp; omega)]
  have : (l.take c).length = c := by simp; omega
  rw [this, List.getElem?_map, List.getElem?_range (by omega)]
  rfl
theorem eqOk_sound {ρ : Env} {cnt c0 inc : Cnt} {all : List Eq2} (hl : Lens ρ cnt) (hb : c0.b ≤ cnt.b) (hv : c0.v ≤ cnt.v) {q : Eq2} (h : eqOk c0 inc all q = true) : q.holds ((ρ.take c0).ext (wit ρ c0 inc all)) ρ := by
  cases q with
  | e a b =>
    simp only [eqOk, Bool.and_eq_true, beq_iff_eq] at h
    simp only [Eq2.holds, closedE_den h.1.1, closedE_den h.1.2, h.2]
  | a n a b =>
    simp only [eqOk, Bool.and_eq_true] at h
    obtain ⟨⟨⟨h1, h2⟩, h3⟩, h4⟩ := h
    simp only [Eq2.holds, closedE_den h1, closedE_den h2, closedE_den h3]
    intro j hj
    simpa using List.all_eq_true.1 h4 j (List.mem_range.2 hj)
  | b a b =>
    simp only [eqOk, Bool.and_eq_true, beq_iff_eq] at h
    simp only [Eq2.holds, closed_den h.1.1, closed_den h.1.2, h.2]
  | v i j =>
    simp only [eqOk, Bool.and_eq_true, Nat.ble_eq, Nat.blt_eq, beq_iff_eq] at h
    simp only [Eq2.holds, Env.ext, Env.take, wit]
    rw [take_getD _ _ _ _ _ _ (by rw [hl.v]; exact hv) h.1.1 h.1.2, show c0.v + (i - c0.v) = i by omega, h.2]
    rfl
  | bl i j =>
    simp only [eqOk, Bool.and_eq_true, Nat.ble_eq, Nat.blt_eq, beq_iff_eq] at h
    simp only [Eq2.holds, Env.ext, Env.take, wit]
    rw [take_getD _ _ _ _ _ _ (by rw [hl.b]; exact hb) h.1.1 h.1.2, show c0.b + (i - c0.b) = i by omega, h.2]
    rfl
  | af _ _ => simp [eqOk] at h
  | p _ _ => simp [eqOk] at h
  | rc _ _ => simp [eqOk] at h
theorem F.triv2_sound {P : Program} {f : F} (ups : List Nat) (cnt : Cnt) (ρ : Env) (L : Nat → LC) (hl : Lens ρ cnt) (hL : ∀ u ∈ ups, (L u).I = fun _ => True) (h : f.triv2 ups cnt = true) : VC P (fun v _ => v = .bool true) f ρ L := by
  induction f generalizing ups cnt ρ L with
  | vc b r ih =>
    simp only [F.triv2, Bool.and_eq_true] at h
    exact ⟨(BE.den_iff ρ b).1 (sure_prop h.1 ρ), fun _ => ih ups cnt ρ L hl hL h.2⟩
  | fork c t e iht ihe =>
    simp only [F.triv2] at h
    split at h
    · rename_i hc
      unfold BE.surely at hc
      split at hc
      · rename_i hs
        simp only [Option.some.injEq] at hc
        exact ⟨fun _ => iht ups cnt ρ L hl hL h, fun hn => absurd ((BE.den_iff ρ c).1 (by rw [closed_den hs]; exact hc)) hn⟩
      · cases hc
    · rename_i hc
      unfold BE.surely at hc
      split at hc
      · rename_i hs
        simp only [Option.some.injEq] at hc
        refine ⟨fun hn => ?_, fun _ => ihe ups cnt ρ L hl hL h⟩
        have := (BE.den_iff ρ c).2 hn
        rw [closed_den hs, hc] at this
        cases this
      · cases hc
    · simp only [Bool.and_eq_true] at h
      exact ⟨fun _ => iht ups cnt ρ L hl hL h.1, fun _ => ihe ups cnt ρ L hl hL h.2⟩
  | ret v hp =>
    cases v with
    | bool b => simp only [F.triv2] at h; simp only [VC, SV.val, sure_prop h ρ]
    | _ => simp [F.triv2] at h
  | allB r ih => exact fun b => ih ups _ _ L (hl.addB b) hL h
  | allV r ih => exact fun v => ih ups _ _ L (hl.addV v) hL h
  | nilV r ih => exact ih ups _ _ L (hl.addV _) hL h
  | allRec b r ih => cases b with
    | true => exact fun d l c => ih ups _ _ L ⟨by simp [Env.ext, hl.b], by simp [Env.ext, hl.v], by simp [Env.ext, hl.i], by simp [Env.ext, hl.a], by simp [Env.ext, hl.bo], by simp [Env.ext, hl.p], by simp [Env.ext, hl.r]⟩ hL h
    | false => exact fun l c => ih ups _ _ L ⟨by simp [Env.ext, hl.b], by simp [Env.ext, hl.v], by simp [Env.ext, hl.i], by simp [Env.ext, hl.a], by simp [Env.ext, hl.bo], by simp [Env.ext, hl.p], by simp [Env.ext, hl.r]⟩ hL h
  | fail => simp [F.triv2] at h
  | call => simp [F.triv2] at h
  | loop => simp [F.triv2] at h
  | back => simp [F.triv2] at h
  | ghost => simp [F.triv2] at h
  | both a b iha ihb =>
    simp only [F.triv2, Bool.and_eq_true] at h
    exact ⟨iha ups cnt ρ L hl hL h.1, ihb ups cnt ρ L hl hL h.2⟩
  | join up inc body r ihb ihr =>
    simp only [F.triv2, Bool.and_eq_true] at h
    refine ⟨fun _ => True, ihb (up :: ups) cnt ρ _ hl ?_ h.1, ?_⟩
    · intro u hu
      unfold setL
      split
      · rfl
      · rcases List.mem_cons.1 hu with rfl | hu
        · rename_i hne; exact absurd rfl hne
        · exact hL u hu
    · rw [allExt_iff]
      intro e he _
      exact ihr ups _ _ L (hl.ext he) hL h.2
  | meet up c0 inc eqs =>
    simp only [F.triv2, meetOk, Bool.and_eq_true, Nat.ble_eq] at h
    obtain ⟨h1, ⟨⟨h2, h3⟩, h4⟩, h5⟩ := h
    have hI := hL up (by simpa using h1)
    simp only [VC]
    rw [exExt_iff]
    simp only [Cnt.only, Bool.and_eq_true, beq_iff_eq] at h2
    refine ⟨wit ρ c0 inc eqs, ⟨by simp [wit], by simp [wit], by simp [wit, h2.1.1.1.1], by simp [wit, h2.1.1.1.2], by simp [wit, h2.1.1.2], by simp [wit, h2.1.2], by simp [wit, h2.2]⟩, ?_⟩
    rw [Eqs_iff]
    refine ⟨fun q hq => eqOk_sound hl h3 h4 (List.all_eq_true.1 h5 q hq), ?_⟩
    rw [hI]
    trivial
theorem law0' {P : Program} {C : Ctx} (hT : checkT P C.T = true) (hFT : FTOk P C.FT) (hm : P.follows .mixedOrders = true) {f : Nat} {fd : Func} (hf : P.funcs[f]? = some fd)
    (h : (runF C f [] [] {} fd).triv2 [] {} = true) (hPu : PureOk P C) : Meets P f [] [] (fun v hs => v = .bool true ∧ hs = []) := by
  have := Meets.of_run (Post := fun v _ => v = .bool true) (ρ := env0) (args := []) (hp := []) (cnt := {}) hT hFT hm hf (by constructor <;> rfl) (F.triv2_sound [] {} env0 _ (by constructor <;> rfl) (fun _ h => by cases h) h) hPu
  exact this.post fun v hs h => ⟨[], Ent.sub (List.nil_sublist _), h, rfl⟩
end Go.RX

namespace Go.RX
def F.chk (p : List Bool) (ups : List Nat) (cnt : Cnt) : F → Bool
  | .vc b r => b.sure && r.chk p ups cnt
  | .allB r => r.chk p ups { cnt with b := cnt.b + 1 }
  | .allV r => r.chk p ups { cnt with v := cnt.v + 1 }
  | .nilV r => r.chk p ups { cnt with v := cnt.v + 1 }
  | .allRec true r => r.chk p ups { cnt with b := cnt.b + 2, r := cnt.r + 1 }
  | .allRec false r => r.chk p ups { cnt with b := cnt.b + 1, r := cnt.r + 1 }
  | .both a b => match p with
    | [] => a.triv2 ups cnt && b.triv2 ups cnt
    | false :: p => a.chk p ups cnt
    | true :: p => b.chk p ups cnt
  | .join up inc body r => match p with
    | [] => body.triv2 (up :: ups) cnt && r.triv2 ups (cnt.add inc)
    | false :: p => body.chk p (up :: ups) cnt
    | true :: p => r.chk p ups (cnt.add inc)
  | f => f.triv2 ups cnt
theorem F.chk_nil (f : F) : ∀ (ups : List Nat) (cnt : Cnt), f.chk [] ups cnt = f.triv2 ups cnt := by
  induction f with
  | vc b r ih => intro u c; simp only [F.chk, F.triv2, ih]
  | allB r ih => intro u c; simp only [F.chk, F.triv2, ih]
  | allV r ih => intro u c; simp only [F.chk, F.triv2, ih]
  | nilV r ih => intro u c; simp only [F.chk, F.triv2, ih]
  | allRec b r ih => intro u c; cases b <;> simp only [F.chk, F.triv2, ih]
  | both a b iha ihb => intro u c; simp only [F.chk, F.triv2]
  | join up inc body r ihb ihr => intro u c; simp only [F.chk, F.triv2]
  | _ => intro u c; simp only [F.chk]
def runChk (C : Ctx) (f : Nat) (fd : Func) (p : List Bool) : Bool := (runF C f [] [] {} fd).chk p [] {}
theorem law1 {P : Program} {C : Ctx} (hT : checkT P C.T = true) (hFT : FTOk P C.FT) (hm : P.follows .mixedOrders = true) {f : Nat} {fd : Func} (hf : P.funcs[f]? = some fd)
    (h : runChk C f fd [] = true) (hPu : PureOk P C) : Meets P f [] [] (fun v hs => v = .bool true ∧ hs = []) := by
  unfold runChk at h
  rw [F.chk_nil] at h
  exact law0' hT hFT hm hf h hPu
def SV.same : SV → SV → Bool
  | .int k (.lit n), .int k' (.lit m) => k == k' && n == m
  | .bool (.lit a), .bool (.lit b) => a == b
  | .str l, .str l' => l == l'
  | .agg a, .agg b => litSame (expandR a) (expandR b)
  | .tup [a, b], .tup [c, d] => SV.same a c && SV.same b d
  | _, _ => false
end Go.RX

namespace Go.RX
def catF (s t : Nat → Int) : Nat → Int := updF (splF s (Int.toNat (s 0 + 1)) (Int.toNat (t 0)) (shiftF t 1)) 0 (s 0 + t 0)
def bytF (a : Nat → Int) (n : Int) : Nat → Int := updF (splF (fun _ => 0) 1 (Int.toNat n) a) 0 n
def strTabF (l : List (List Int)) : Nat → Int := (l.zipIdx.foldl (fun acc x => put2F acc x.2 (rowLF x.1)) fun _ => 0)
theorem strD_catF (s t : Nat → Int) (hs : 0 ≤ s 0) (ht : 0 ≤ t 0) : strD (catF s t) = strD s ++ strD t := by
  have := eCat_den { av := [s, t] } (.avar 0) (.avar 1) hs ht
  exact this
theorem catF0 (s t : Nat → Int) : catF s t 0 = s 0 + t 0 := rfl
theorem strD_bytF (a : Nat → Int) (n : Int) : strD (bytF a n) = (List.range n.toNat).map fun j => UInt8.ofNat (a j).toNat := by
  have := eBytes_den { av := [a], iv := [n] } (.avar 0) (.var 0)
  exact this
theorem Meets.of_bare {P : Program} {C : Ctx} (hT : checkT P C.T = true) (hFT : FTOk P C.FT) (hm : P.follows .mixedOrders = true) {f : Nat} {fd : Func} (hf : P.funcs[f]? = some fd) {args : List SV} {cnt : Cnt} {ρ : Env} (hl : Lens ρ cnt) (Q : Value → Prop)
    {g : F} {s : Prop} (e : runF C f args [] cnt fd = g) (hv : VC P (fun v _ => Q v) g ρ (fun _ => LC.none) = s) (hs : s) (hPu : PureOk P C := by exact PureOk.none rfl) : Meets P f (SV.vals ρ args) [] (fun v hs => Q v ∧ hs = []) := by
  subst e; subst hv
  have := Meets.of_run (Post := fun v _ => Q v) (hp := []) hT hFT hm hf hl hs hPu
  exact this.post fun v hs h => ⟨[], Ent.sub (List.nil_sublist _), h, rfl⟩
end Go.RX

namespace Go.RX
theorem Owns.dup {h : HP} {hs : List HP} {w : World} (hw : h.wr = false) (ho : Owns (h :: hs) w) : Owns (h :: h :: hs) w := by
  obtain ⟨S, hS⟩ := ho
  refine ⟨fun i => S (i - 1), ⟨?_, ?_⟩⟩
  · intro i x hx
    cases i with
    | zero =>
      simp at hx; subst hx
      exact hS.at_ 0 _ rfl
    | succ i => exact hS.at_ i x (by simpa using hx)
  · intro i j x y hij hx hy hwr
    cases i with
    | zero =>
      cases j with
      | zero => exact absurd rfl hij
      | succ j =>
        simp at hx; subst hx
        cases j with
        | zero =>
          simp at hy; subst hy
          simp [hw] at hwr
        | succ j => exact hS.apart 0 (j + 1) _ y (by omega) rfl (by simpa using hy) hwr
    | succ i =>
      cases j with
      | zero =>
        simp at hy; subst hy
        cases i with
        | zero =>
          simp at hx; subst hx
          simp [hw] at hwr
        | succ i => exact hS.apart (i + 1) 0 x _ (by omega) (by simpa using hx) rfl hwr
      | succ j => exact hS.apart i j x y (by omega) (by simpa using hx) (by simpa using hy) hwr
theorem Meets.look {P : Program} {f : Nat} {args : List Value} {h : HP} {Q : Value → Prop} (hw : h.wr = false) (hm : Meets P f args [h] fun v _ => Q v) : Meets P f args [h] fun v hs => Q v ∧ hs = [h] := by
  intro w Fs ho
  refine (hm w (h :: Fs) (Owns.dup hw ho)).mono ?_
  rintro e w' ⟨v, hs, rfl, hq, ho', hsm⟩
  exact ⟨v, [h], rfl, ⟨hq, rfl⟩, Owns.sub ho' (List.sublist_append_right _ _), hsm⟩
theorem Meets.of_look {P : Program} {C : Ctx} (hT : checkT P C.T = true) (hFT : FTOk P C.FT) (hm : P.follows .mixedOrders = true) {f : Nat} {fd : Func} (hf : P.funcs[f]? = some fd) {args : List SV} {cnt : Cnt} {ρ : Env} (hl : Lens ρ cnt) {h0 : HP} (hw : h0.wr = false) (hp0 : (Ck.abs 0).den ρ = h0) (Q : Value → Prop)
    {g : F} {s : Prop} (e : runF C f args [.abs 0] cnt fd = g) (hv : VC P (fun v _ => Q v) g ρ (fun _ => LC.none) = s) (hs : s) (hPu : PureOk P C := by exact PureOk.none rfl) : Meets P f (SV.vals ρ args) [h0] (fun v hs => Q v ∧ hs = [h0]) := by
  subst e; subst hv
  have := Meets.of_run (Post := fun v _ => Q v) (hp := [.abs 0]) hT hFT hm hf hl hs hPu
  rw [show [Ck.abs 0].map (Ck.den ρ) = [h0] by rw [List.map_singleton, hp0]] at this
  exact this.look hw
theorem Meets.know {P : Program} {f : Nat} {args : List Value} {pre : List HP} {p Q : Value → List HP → Prop} (h : Meets P f args pre p) (hq : ∀ v hs, p v hs → ∀ (w : World) (Fs : List HP), Owns (hs ++ Fs) w → Q v hs) :
    Meets P f args pre fun v hs => p v hs ∧ Q v hs := by
  intro w Fs o
  refine (h w Fs o).mono ?_
  rintro e w' ⟨v, hs, he, hp, ho, hs'⟩
  exact ⟨v, hs, he, ⟨hp, hq v hs hp _ _ ho⟩, ho, hs'⟩
theorem owns_bsl {t s n : Nat} {v : Value} {cs : List Value} {Fs : List HP} {w : World} (h : Owns (sliHP true t s v n cs :: Fs) w) : ∃ e : Int, v = bslV e := by
  obtain ⟨S, hS⟩ := h
  obtain ⟨⟨ho, _⟩, _⟩ := hS.at_ 0 _ rfl
  simp only [if_true] at ho
  rcases ho.2 with ⟨rfl, _⟩ | ⟨g, o, cap, cur, rfl, _⟩
  · exact ⟨0, rfl⟩
  · exact ⟨bslC g o n cap, (bslV_code g o n cap).symm⟩
end Go.RX
