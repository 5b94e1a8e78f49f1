/- A reflective symbolic executor, part 2: ownership of heap predicates, side by side. -/
import Derived.Test.YtgaabcinjbjbgaaGreatDoorRxA
namespace Go.RX

/-- What no step of a call turns. -/
structure Same (w w' : World) : Prop where
  os : w'.os = w.os
  tape : w'.tape = w.tape
  output : w'.output = w.output
  size : w.heap.size ≤ w'.heap.size

theorem Same.refl (w : World) : Same w w := ⟨rfl, rfl, rfl, Nat.le_refl _⟩
theorem Same.trans {a b c : World} (h : Same a b) (k : Same b c) : Same a c :=
  ⟨k.os.trans h.os, k.tape.trans h.tape, k.output.trans h.output, Nat.le_trans h.size k.size⟩

/-- The footprints S of the predicates hs, in w. -/
structure Sep (hs : List HP) (S : Nat → Nat → Prop) (w : World) : Prop where
  at_ : ∀ i h, hs[i]? = some h → h.p w (S i) ∧ ∀ k, S i k → k < w.heap.size
  apart : ∀ i j hi hj, i ≠ j → hs[i]? = some hi → hs[j]? = some hj → (hi.wr = true ∨ hj.wr = true) → ∀ k, S i k → ¬ S j k

def Owns (hs : List HP) (w : World) : Prop := ∃ S, Sep hs S w

/-- A predicate that holds of nothing, everywhere. -/
def HP.emp : HP := ⟨false, fun _ S => ∀ k, ¬ S k, fun _ _ _ h _ => h⟩

theorem Owns.pick {hs : List HP} {w : World} (h : Owns hs w) (idx : List Nat) (hs' : List HP) (hnd : idx.Nodup)
    (he : ∀ j : Nat, hs'[j]? = (idx[j]?).bind (fun i => hs[i]?)) : Owns hs' w := by
  obtain ⟨S, hS⟩ := h
  refine ⟨fun j => S (idx.getD j 0), ⟨?_, ?_⟩⟩
  · intro j x hx
    rw [he] at hx
    cases hj : idx[j]? with
    | none => simp [hj] at hx
    | some i =>
      simp only [hj, Option.bind_some] at hx
      have : idx.getD j 0 = i := by simp [List.getD, hj]
      rw [this]
      exact hS.at_ i x hx
  · intro i j hi hj hne hxi hxj hw k
    rw [he] at hxi hxj
    cases hi' : idx[i]? with
    | none => simp [hi'] at hxi
    | some ii =>
      cases hj' : idx[j]? with
      | none => simp [hj'] at hxj
      | some jj =>
        simp only [hi', hj', Option.bind_some] at hxi hxj
        have e1 : idx.getD i 0 = ii := by simp [List.getD, hi']
        have e2 : idx.getD j 0 = jj := by simp [List.getD, hj']
        rw [e1, e2]
        refine hS.apart ii jj hi hj ?_ hxi hxj hw k
        intro e
        subst e
        rw [List.getElem?_eq_some_iff] at hi' hj'
        obtain ⟨a1, b1⟩ := hi'
        obtain ⟨a2, b2⟩ := hj'
        have hpw := List.pairwise_iff_getElem.1 hnd
        rcases Nat.lt_or_gt_of_ne hne with h | h
        · exact hpw i j a1 a2 h (b1.trans b2.symm)
        · exact hpw j i a2 a1 h (b2.trans b1.symm)

/-- One step: blocks outside footprint i (which may be written), and new ones, are as they were; predicate i becomes h', on old blocks of its own and new ones. -/
theorem Sep.step {hs : List HP} {S : Nat → Nat → Prop} {w w' : World} (h : Sep hs S w) (i : Nat) (h0 h' : HP) (hi : hs[i]? = some h0) (hw : h0.wr = true)
    (S' : Nat → Prop) (hsize : w.heap.size ≤ w'.heap.size) (hkeep : ∀ k, k < w.heap.size → ¬ S i k → w'.heap[k]? = w.heap[k]?)
    (hp : h'.p w' S') (hsub : ∀ k, S' k → S i k ∨ (w.heap.size ≤ k ∧ k < w'.heap.size)) :
    Sep (hs.set i h') (fun j => if j = i then S' else S j) w' := by
  have hlt : i < hs.length := (List.getElem?_eq_some_iff.1 hi).1
  refine ⟨?_, ?_⟩
  · intro j x hx
    by_cases hj : j = i
    · subst hj
      rw [List.getElem?_set_self hlt] at hx
      cases hx
      simp only [if_true]
      refine ⟨hp, fun k hk => ?_⟩
      rcases hsub k hk with h1 | h1
      · exact Nat.lt_of_lt_of_le ((h.at_ _ _ hi).2 k h1) hsize
      · exact h1.2
    · rw [List.getElem?_set_ne (Ne.symm hj)] at hx
      simp only [hj, if_false]
      obtain ⟨hpx, hb⟩ := h.at_ j x hx
      refine ⟨x.stable w w' _ hpx fun k hk => hkeep k (hb k hk) ?_, fun k hk => Nat.lt_of_lt_of_le (hb k hk) hsize⟩
      exact fun hik => h.apart i j h0 x (Ne.symm hj) hi hx (.inl hw) k hik hk
  · intro a b ha hb hne hxa hxb hwr k
    by_cases haj : a = i
    · subst haj
      have hbi : b ≠ a := Ne.symm hne
      rw [List.getElem?_set_ne hne] at hxb
      simp only [if_true, hbi, if_false]
      intro hk hbk
      rcases hsub k hk with h1 | h1
      · exact h.apart a b h0 hb hne hi hxb (.inl hw) k h1 hbk
      · exact absurd ((h.at_ b hb hxb).2 k hbk) (by omega)
    · rw [List.getElem?_set_ne (Ne.symm haj)] at hxa
      by_cases hbj : b = i
      · subst hbj
        simp only [if_true, haj, if_false]
        intro hk hbk
        rcases hsub k hbk with h1 | h1
        · exact h.apart a b ha h0 hne hxa hi (.inr hw) k hk h1
        · exact absurd ((h.at_ a ha hxa).2 k hk) (by omega)
      · rw [List.getElem?_set_ne (Ne.symm hbj)] at hxb
        simp only [haj, hbj, if_false]
        exact h.apart a b ha hb hne hxa hxb hwr k

/-- A step that only adds blocks; a predicate on new ones is added at place n (where none was, or 'emp'). -/
theorem Sep.keep {hs : List HP} {S : Nat → Nat → Prop} {w w' : World} (h : Sep hs S w) (hsize : w.heap.size ≤ w'.heap.size)
    (hkeep : ∀ k, k < w.heap.size → w'.heap[k]? = w.heap[k]?) : Sep hs S w' := by
  refine ⟨fun i x hx => ?_, h.apart⟩
  obtain ⟨hp, hb⟩ := h.at_ i x hx
  exact ⟨x.stable w w' _ hp fun k hk => hkeep k (hb k hk), fun k hk => Nat.lt_of_lt_of_le (hb k hk) hsize⟩

theorem Sep.new {hs : List HP} {S : Nat → Nat → Prop} {w w' : World} (h : Sep hs S w) (i : Nat) (h' : HP) (hi : hs[i]? = some HP.emp)
    (S' : Nat → Prop) (hsize : w.heap.size ≤ w'.heap.size) (hkeep : ∀ k, k < w.heap.size → w'.heap[k]? = w.heap[k]?)
    (hp : h'.p w' S') (hsub : ∀ k, S' k → w.heap.size ≤ k ∧ k < w'.heap.size) :
    Sep (hs.set i h') (fun j => if j = i then S' else S j) w' := by
  have hlt : i < hs.length := (List.getElem?_eq_some_iff.1 hi).1
  refine ⟨?_, ?_⟩
  · intro j x hx
    by_cases hj : j = i
    · subst hj
      rw [List.getElem?_set_self hlt] at hx
      cases hx
      simp only [if_true]
      exact ⟨hp, fun k hk => (hsub k hk).2⟩
    · rw [List.getElem?_set_ne (Ne.symm hj)] at hx
      simp only [hj, if_false]
      obtain ⟨hpx, hb⟩ := h.at_ j x hx
      exact ⟨x.stable w w' _ hpx fun k hk => hkeep k (hb k hk), fun k hk => Nat.lt_of_lt_of_le (hb k hk) hsize⟩
  · intro a b ha hb hne hxa hxb hwr k
    by_cases haj : a = i
    · subst haj
      have hbi : b ≠ a := Ne.symm hne
      rw [List.getElem?_set_ne hne] at hxb
      simp only [if_true, hbi, if_false]
      intro hk hbk
      have := (h.at_ b hb hxb).2 k hbk
      have := hsub k hk
      omega
    · rw [List.getElem?_set_ne (Ne.symm haj)] at hxa
      by_cases hbj : b = i
      · subst hbj
        simp only [if_true, haj, if_false]
        intro hk hbk
        have := (h.at_ a ha hxa).2 k hk
        have := hsub k hbk
        omega
      · rw [List.getElem?_set_ne (Ne.symm hbj)] at hxb
        simp only [haj, hbj, if_false]
        exact h.apart a b ha hb hne hxa hxb hwr k

/-- The cells of block b, from 0 on. -/
def rowHP (b : Nat) (wr : Bool) (cs : List Value) : HP where
  wr := wr
  p w S := (∀ k, S k ↔ k = b) ∧ ∃ ty fz, w.heap[b]? = some (.cells cs.toArray ty fz) ∧ (wr = true → fz = (0, 0))
  stable w w' S h hk := by
    obtain ⟨h1, ty, fz, h2, h3⟩ := h
    exact ⟨h1, ty, fz, (hk b ((h1 b).2 rfl)).trans h2, h3⟩

/-- A string's iterator in a block of its own. -/
def sitHP (b : Nat) (l : List UInt8) (pos : Nat) : HP where
  wr := true
  p w S := (∀ k, S k ↔ k = b) ∧ w.heap[b]? = some (.stringIter ⟨l.toArray⟩ pos)
  stable _ _ _ h hk := ⟨h.1, (hk b ((h.1 b).2 rfl)).trans h.2⟩

/-- A strings.Builder in a block of its own: its type, its bytes' type, the bytes that it holds. -/
def bldHP (b t e : Nat) (bs : List Value) : HP where
  wr := true
  p w S := ∃ pv v, w.heap[b]? = some (.cells #[pv, v] t (0, 0)) ∧ (pv = .pointer none ∨ pv = .pointer (some ⟨b, 0, none⟩)) ∧ w.ownsRow 0 e 1 v bs.length bs ∧
    v.ownBlock ≠ some b ∧ ∀ k, S k ↔ k = b ∨ v.ownBlock = some k
  stable w w' S h hk := by
    obtain ⟨pv, v, h1, h2, h3, h4, h5⟩ := h
    refine ⟨pv, v, (hk b ((h5 b).2 (.inl rfl))).trans h1, h2, ⟨h3.1, ?_⟩, h4, h5⟩
    rcases h3.2 with hn | ⟨g, cap, cur, rfl, hB, hg, r⟩
    · exact .inl hn
    · exact .inr ⟨g, cap, cur, rfl, hB, (hk g ((h5 g).2 (.inr rfl))).trans hg, r⟩

/-- The record of a range over a function. -/
def recHP (l : Nat) (r : Loop) : HP where
  wr := true
  p w S := (∀ k, S k ↔ k = l) ∧ w.heap[l]? = some (.loop r)
  stable w w' S h hk := ⟨h.1, by rw [hk l ((h.1 l).2 rfl)]; exact h.2⟩
/-- The block for calls that rounds defer: none has come. -/
def dfrHP (b : Nat) : HP where
  wr := true
  p w S := (∀ k, S k ↔ k = b) ∧ w.heap[b]? = some (.deferred (some []))
  stable w w' S h hk := ⟨h.1, by rw [hk b ((h.1 b).2 rfl)]; exact h.2⟩

/-- The blocks for calls that rounds defer, of more ranges than one. -/
def dfrsHP (l : List Nat) : HP where
  wr := true
  p w S := (∀ k, S k ↔ k ∈ l) ∧ l.Nodup ∧ ∀ b, b ∈ l → w.heap[b]? = some (.deferred (some []))
  stable w w' S h hk := ⟨h.1, h.2.1, fun b hb => by rw [hk b ((h.1 b).2 hb)]; exact h.2.2 b hb⟩
/-- A number for each row of blocks. -/
def encL : List Nat → Nat
  | [] => 0
  | x :: r => 2 ^ x * (2 * encL r + 1)
theorem encL_inj : ∀ {l m : List Nat}, encL l = encL m → l = m := by
  have pos : ∀ (x : Nat) (r : List Nat), 0 < encL (x :: r) := fun x r => Nat.mul_pos (Nat.pow_pos (by decide)) (by omega)
  have key : ∀ (x y a b : Nat), 2 ^ x * (2 * a + 1) = 2 ^ y * (2 * b + 1) → x = y ∧ a = b := by
    intro x
    induction x with
    | zero =>
      intro y a b h
      cases y with
      | zero => simp at h; exact ⟨rfl, by omega⟩
      | succ y => rw [Nat.pow_succ, Nat.mul_right_comm] at h; omega
    | succ x ih =>
      intro y a b h
      cases y with
      | zero => rw [Nat.pow_succ, Nat.mul_right_comm] at h; omega
      | succ y =>
        rw [Nat.pow_succ, Nat.pow_succ, Nat.mul_right_comm, Nat.mul_right_comm _ 2] at h
        obtain ⟨h1, h2⟩ := ih y a b (by omega)
        exact ⟨by omega, h2⟩
  intro l
  induction l with
  | nil =>
    intro m h
    cases m with
    | nil => rfl
    | cons y s => have := pos y s; rw [← h] at this; simp [encL] at this
  | cons x r ih =>
    intro m h
    cases m with
    | nil => have := pos x r; rw [h] at this; simp [encL] at this
    | cons y s =>
      obtain ⟨rfl, h2⟩ := key _ _ _ _ h
      rw [ih h2]
open Classical in
noncomputable def listOf (n : Nat) : List Nat := if h : ∃ l, encL l = n then h.choose else []
theorem listOf_enc (l : List Nat) : listOf (encL l) = l := by
  have h : ∃ m, encL m = encL l := ⟨l, rfl⟩
  unfold listOf
  rw [dif_pos h]
  exact encL_inj h.choose_spec

/-- A slice that is only looked at: its first cells. -/
def World.views (w : World) (v : Value) (n : Nat) (cs : List Value) : Prop :=
  ∃ a m c, v = .slice a m c ∧ m = n ∧ m ≤ c ∧ (a = none → n = 0) ∧
    ∀ ad, a = some ad → (0 < n → ad.spot = none) ∧ ∀ (j : Nat) u, cs[j]? = some u → w.cell? (ad.add j) = some u

/-- What a slice owns: its block, from whatever place of it on. -/
def _root_.Go.World.ownsAt (w : World) (_ s : Nat) (v : Value) (n : Nat) (cs : List Value) : Prop :=
  cs.length = n * s ∧ ((v = .slice none 0 0 ∧ n = 0) ∨
    ∃ g o cap cur, v = .slice (some ⟨g, o, none⟩) n cap ∧ (∃ t', w.heap[g]? = some (.cells cur t' (0, 0))) ∧ n ≤ cap ∧ cap ≤ maxLen ∧ (0 < cap → o + cap * s ≤ cur.size) ∧ (cur.toList.drop o).take (n * s) = cs)
theorem ownsAt_nil (w : World) (t s : Nat) : w.ownsAt t s (.slice none 0 0) 0 [] := ⟨by simp, .inl ⟨rfl, rfl⟩⟩
theorem ownsAt_of {w : World} {t s n : Nat} {v : Value} {cs : List Value} (h : w.ownsRow 0 t s v n cs) : w.ownsAt t s v n cs := by
  obtain ⟨hl, hr⟩ := h
  refine ⟨hl, ?_⟩
  rcases hr with hn | ⟨g, cap, cur, he, _, hg, hnc, hcm, hcs, htk⟩
  · exact .inl hn
  · exact .inr ⟨g, 0, cap, cur, he, ⟨t, hg⟩, hnc, hcm, by omega, by simpa using htk⟩
theorem ownsAt_lt {w : World} {t s n : Nat} {v : Value} {cs : List Value} (h : w.ownsAt t s v n cs) {k : Nat} (hk : v.ownBlock = some k) : k < w.heap.size := by
  rcases h.2 with ⟨rfl, _⟩ | ⟨g, o, cap, cur, rfl, ⟨_, hg⟩, _⟩
  · simp [Value.ownBlock] at hk
  · simp only [Value.ownBlock, Option.some.injEq] at hk
    subst hk
    exact (Array.getElem?_eq_some_iff.1 hg).1
theorem addr_add_at (g o j : Nat) : (⟨g, o, none⟩ : Addr).add j = ⟨g, o + j, none⟩ := by unfold Addr.add; split <;> simp_all
theorem ownsAt_cells {w : World} {t s n : Nat} {cs : List Value} {g o m c : Nat} (h : w.ownsAt t s (.slice (some ⟨g, o, none⟩) m c) n cs) : ∀ j u, cs[j]? = some u → w.cell? ((⟨g, o, none⟩ : Addr).add j) = some u := by
  intro j u hu
  rcases h.2 with ⟨he, _⟩ | ⟨g', o', cap, cur, he, ⟨t', hgg⟩, _, _, _, htake⟩
  · simp at he
  · simp only [Value.slice.injEq, Option.some.injEq, Addr.mk.injEq, and_true] at he
    obtain ⟨⟨rfl, rfl⟩, _⟩ := he
    rw [addr_add_at, cell_of_row w g (o + j) cur t' (0, 0) hgg]
    rw [← htake, List.getElem?_take] at hu
    split at hu
    · rw [List.getElem?_drop] at hu
      simpa using hu
    · cases hu

/-- A slice of n elements of s cells each, of type t: owned, to be appended to (md), or only looked at. -/
def sliHP (md : Bool) (t s : Nat) (v : Value) (n : Nat) (cs : List Value) : HP where
  wr := md
  p w S := (if md then w.ownsAt t s v n cs else cs.length = n * s ∧ World.views w v n cs) ∧ ∀ k, S k ↔ v.ownBlock = some k ∧ (md = true ∨ 0 < n)
  stable w w' S h hk := by
    refine ⟨?_, h.2⟩
    obtain ⟨h0, h2⟩ := h
    cases md with
    | true =>
      simp only [if_true] at h0 ⊢
      obtain ⟨hl, hr⟩ := h0
      refine ⟨hl, ?_⟩
      rcases hr with hn | ⟨g, o, cap, cur, rfl, ⟨t', hg⟩, rest⟩
      · exact .inl hn
      · refine .inr ⟨g, o, cap, cur, rfl, ⟨t', ?_⟩, rest⟩
        rw [hk g ((h2 g).2 ⟨by simp [Value.ownBlock], .inl rfl⟩)]
        exact hg
    | false =>
      simp only [Bool.false_eq_true, if_false] at h0 ⊢
      obtain ⟨hl, a, m, c, rfl, hm, hmc, hnil, hc⟩ := h0
      refine ⟨hl, a, m, c, rfl, hm, hmc, hnil, fun ad had => ⟨(hc ad had).1, fun j u hu => ?_⟩⟩
      subst had
      have := (hc ad rfl).2 j u hu
      have hn : 0 < n := by
        apply Nat.pos_of_ne_zero
        rintro rfl
        have hcs : cs = [] := List.eq_nil_of_length_eq_zero (by simpa using hl)
        rw [hcs] at hu
        simp at hu
      have hb := hk ad.block ((h2 ad.block).2 ⟨by simp [Value.ownBlock], .inr hn⟩)
      have hblk : (ad.add j).block = ad.block := by unfold Addr.add; split <;> rfl
      simpa [World.cell?, hblk, hb] using this

/-- A key of these cells: an aggregate, or one integer. -/
def encK (agg : Bool) (kl : List IntKind) (ks : List Int) : Value :=
  if agg then .agg ((kl.zip ks).map fun x => .int x.1 x.2).toArray else
  match kl, ks with
  | [k], [n] => .int k n
  | _, _ => .nilIface
def encV (agg : Bool) (cs : List Value) : Value :=
  if agg then .agg cs.toArray else cs.headD .nilIface

/-- The entries of a map: what it has, and what a key leads to (a zero value if it has none). -/
structure MapIs (es : List MapEntry) (kl : List IntKind) (ka va : Bool) (has : Nat → Bool) (row : Nat → List Value) : Prop where
  keys : ∀ e ∈ es, ∃ ks : List Int, ks.length = kl.length ∧ e.key = encK ka kl ks ∧ has (kcode ks) = true ∧ e.val = encV va (row (kcode ks))
  once : ∀ (i j : Nat) e e', es[i]? = some e → es[j]? = some e' → e.key = e'.key → i = j
  all : ∀ ks : List Int, ks.length = kl.length → has (kcode ks) = true → ∃ e ∈ es, e.key = encK ka kl ks

def mapHP (b : Nat) (kl : List IntKind) (ka va : Bool) (zero : List Value) (has : Nat → Bool) (row : Nat → List Value) : HP where
  wr := true
  p w S := (∀ k, S k ↔ k = b) ∧ (∃ es clock, w.heap[b]? = some (.map es clock) ∧ MapIs es.toList kl ka va has row) ∧
    (∀ ks : List Int, ks.length = kl.length → has (kcode ks) = false → row (kcode ks) = zero)
  stable w w' S h hk := by
    refine ⟨h.1, ?_, h.2.2⟩
    obtain ⟨es, clock, h1, h2⟩ := h.2.1
    exact ⟨es, clock, by rw [hk b ((h.1 b).2 rfl)]; exact h1, h2⟩

/-- All blocks below n are as in w0. -/
def keptHP (n : Nat) (w0 : World) : HP where
  wr := false
  p w S := (∀ k, S k ↔ k < n) ∧ ∀ k, k < n → w.heap[k]? = w0.heap[k]?
  stable _ _ _ h hk := ⟨h.1, fun k hn => (hk k ((h.1 k).2 hn)).trans (h.2 k hn)⟩

end Go.RX
