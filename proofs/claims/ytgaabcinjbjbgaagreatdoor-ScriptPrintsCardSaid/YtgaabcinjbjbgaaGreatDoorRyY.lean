/- A reflective symbolic executor, part 25e: the statement that ranges over a function. -/
import Derived.Test.YtgaabcinjbjbgaaGreatDoorRxY

namespace Go.RX

/-- Writes, one after the other: who, where, what. -/
abbrev Wr := Nat × Option Nat × Value
def puts (a : Act) (W : List Wr) : Act := W.foldl (fun a x => a.put x.2.1 x.2.2) a

theorem puts_append (a : Act) (x y : List Wr) : puts a (x ++ y) = puts (puts a x) y := List.foldl_append ..
theorem puts_one (a : Act) (i : Nat) (d : Option Nat) (v : Value) : puts a [(i, d, v)] = a.put d v := rfl
theorem put_size (a : Act) (d : Option Nat) (v : Value) : (a.put d v).tmps.size = a.tmps.size := by cases d <;> simp [Act.put]
theorem put_defers (a : Act) (d : Option Nat) (v : Value) : (a.put d v).defers = a.defers := by cases d <;> rfl
theorem puts_size : ∀ (W : List Wr) (a : Act), (puts a W).tmps.size = a.tmps.size
  | [], _ => rfl
  | x :: r, a => by
    show (puts (a.put x.2.1 x.2.2) r).tmps.size = _
    rw [puts_size r, put_size]
theorem puts_defers : ∀ (W : List Wr) (a : Act), (puts a W).defers = a.defers
  | [], _ => rfl
  | x :: r, a => by
    show (puts (a.put x.2.1 x.2.2) r).defers = _
    rw [puts_defers r, put_defers]

theorem put_other (a : Act) (d : Option Nat) (v : Value) (s : Nat) (h : d ≠ some s) : (a.put d v).tmps.getD s undef = a.tmps.getD s undef := by
  cases d with
  | none => rfl
  | some d =>
    have : d ≠ s := fun e => h (by rw [e])
    simp only [Act.put]
    rw [Array.getD_eq_getD_getElem?, Array.getD_eq_getD_getElem?, Array.getElem?_setIfInBounds_ne this]
theorem put_self (a : Act) (d : Nat) (v : Value) (h : d < a.tmps.size) : (a.put (some d) v).tmps.getD d undef = v := by
  simp only [Act.put]
  rw [Array.getD_eq_getD_getElem?, Array.getElem?_setIfInBounds_self_of_lt h]
  rfl
theorem put_same (a b : Act) (d : Option Nat) (v : Value) (s : Nat) (hs : a.tmps.size = b.tmps.size) (h : a.tmps.getD s undef = b.tmps.getD s undef) :
    (a.put d v).tmps.getD s undef = (b.put d v).tmps.getD s undef := by
  by_cases hd : d = some s
  · subst hd
    by_cases hlt : s < a.tmps.size
    · rw [put_self a s v hlt, put_self b s v (by omega)]
    · simp only [Act.put]
      rw [Array.getD_eq_getD_getElem?, Array.getD_eq_getD_getElem?, Array.getElem?_eq_none (by simpa using hlt), Array.getElem?_eq_none (by simp; omega)]
  · rw [put_other a d v s hd, put_other b d v s hd, h]

/-- A slot is what its own writers make it. -/
theorem puts_slot (s : Nat) : ∀ (W : List Wr) (a b : Act), a.tmps.size = b.tmps.size → a.tmps.getD s undef = b.tmps.getD s undef →
    (puts a W).tmps.getD s undef = (puts b (W.filter fun x => x.2.1 == some s)).tmps.getD s undef
  | [], a, b, _, h => h
  | x :: r, a, b, hs, h => by
    show (puts (a.put x.2.1 x.2.2) r).tmps.getD s undef = _
    by_cases hx : x.2.1 = some s
    · rw [List.filter_cons_of_pos (by simpa using hx)]
      show _ = (puts (b.put x.2.1 x.2.2) _).tmps.getD s undef
      exact puts_slot s r _ _ (by rw [put_size, put_size, hs]) (put_same a b _ _ s hs h)
    · rw [List.filter_cons_of_neg (by simpa using hx)]
      exact puts_slot s r _ _ (by rw [put_size, hs]) (by rw [put_other a _ _ s hx, h])

theorem put_comm (a : Act) {d d' : Option Nat} (v v' : Value) (h : ∀ s, d = some s → d' ≠ some s) : (a.put d v).put d' v' = (a.put d' v').put d v := by
  cases d with
  | none => rfl
  | some d =>
    cases d' with
    | none => rfl
    | some d' =>
      have : d ≠ d' := fun e => h d rfl (by rw [e])
      simp only [Act.put]
      rw [Array.setIfInBounds_comm _ _ this]
theorem puts_comm (d : Option Nat) (v : Value) : ∀ (W : List Wr) (a : Act), (∀ x ∈ W, ∀ s, d = some s → x.2.1 ≠ some s) → puts (a.put d v) W = (puts a W).put d v
  | [], _, _ => rfl
  | x :: r, a, h => by
    show puts ((a.put d v).put x.2.1 x.2.2) r = (puts (a.put x.2.1 x.2.2) r).put d v
    rw [put_comm a v x.2.2 (h x List.mem_cons_self)]
    exact puts_comm d v r _ fun y hy => h y (List.mem_cons_of_mem _ hy)

section order
variable {all : Array Oper} {pm : List Nat}

theorem pmOk_spec (h : pmOk all pm = true) {p : Nat} {o : Oper} (ho : all[p]? = some o) :
    (∀ e ∈ o.after, Region.binds .any e = true → e.on < p) ∧
    ∀ q, q < all.size → (pm.getD p 0).testBit q = true → ∃ e ∈ o.after, Region.binds .any e = true ∧ (q = e.on ∨ (pm.getD e.on 0).testBit q = true) := by
  have hp : p < all.size := (Array.getElem?_eq_some_iff.1 ho).1
  have := List.all_eq_true.1 h p (List.mem_range.2 hp)
  simp only [ho, Bool.and_eq_true] at this
  refine ⟨fun e he hb => ?_, fun q hq hbit => ?_⟩
  · have h1 := List.all_eq_true.1 this.1 e (by simpa using he)
    simpa [hb, Nat.blt_eq] using h1
  · have h1 := List.all_eq_true.1 this.2 q (List.mem_range.2 hq)
    rw [hbit] at h1
    simp only [Bool.not_true, Bool.false_or] at h1
    obtain ⟨e, he, h2⟩ := List.any_eq_true.1 h1
    simp only [Bool.and_eq_true, Bool.or_eq_true, beq_iff_eq] at h2
    exact ⟨e, by simpa using he, h2.1, h2.2⟩

/-- What is closed under the edges is closed under what comes ahead. -/
theorem closed_pm (h : pmOk all pm = true) (X : Nat → Prop) (hX : ∀ p o, all[p]? = some o → X p → ∀ e ∈ o.after, Region.binds .any e = true → X e.on) :
    ∀ (p : Nat) (o : Oper), all[p]? = some o → X p → ∀ q, q < all.size → (pm.getD p 0).testBit q = true → X q := by
  intro p
  induction p using Nat.strongRecOn with
  | _ p ih =>
    intro o ho hXp q hq hbit
    obtain ⟨h1, h2⟩ := pmOk_spec h ho
    obtain ⟨e, he, hb, hor⟩ := h2 q hq hbit
    have hXe := hX p o ho hXp e he hb
    rcases hor with rfl | hbit'
    · exact hXe
    · have hlt := h1 e he hb
      have hp : p < all.size := (Array.getElem?_eq_some_iff.1 ho).1
      have hoe : all[e.on]? = some all[e.on] := Array.getElem?_eq_getElem (by omega)
      exact ih e.on hlt _ hoe hXe q hq hbit'

/-- One that waits comes behind all that is ahead of it. -/
theorem ahead_pm (h : pmOk all pm = true) (X : Nat → Prop) (hX : ∀ p o, all[p]? = some o → X p → ∀ e ∈ o.after, Region.binds .any e = true → X e.on)
    {p : Nat} {o : Oper} (ho : all[p]? = some o) (hr : ∀ e ∈ o.after, Region.binds .any e = true → X e.on) {q : Nat} (hq : q < all.size) (hbit : (pm.getD p 0).testBit q = true) : X q := by
  obtain ⟨h1, h2⟩ := pmOk_spec h ho
  obtain ⟨e, he, hb, hor⟩ := h2 q hq hbit
  have hXe := hr e he hb
  rcases hor with rfl | hbit'
  · exact hXe
  · have hlt := h1 e he hb
    have hp : p < all.size := (Array.getElem?_eq_some_iff.1 ho).1
    have hoe : all[e.on]? = some all[e.on] := Array.getElem?_eq_getElem (by omega)
    exact closed_pm h X hX e.on _ hoe hXe q hq hbit'

theorem orderedB_spec (h : orderedB all pm = true) {i j d : Nat} {oi oj : Oper} (hi : all[i]? = some oi) (hj : all[j]? = some oj) (hd : oi.dst = some d)
    (hs : d ∈ slotsOf all oj ∨ oj.dst = some d) (hne : i ≠ j) : (pm.getD j 0).testBit i = true ∨ (pm.getD i 0).testBit j = true := by
  have hil : i < all.size := (Array.getElem?_eq_some_iff.1 hi).1
  have hjl : j < all.size := (Array.getElem?_eq_some_iff.1 hj).1
  have h1 := List.all_eq_true.1 h i (List.mem_range.2 hil)
  simp only [hi, hd] at h1
  have h2 := List.all_eq_true.1 h1 j (List.mem_range.2 hjl)
  simp only [hj, Bool.or_eq_true, beq_iff_eq, Bool.not_eq_true', Bool.or_eq_false_iff, beq_eq_false_iff_ne] at h2
  rcases h2 with ((h2 | h2) | h2) | h2
  · exact absurd h2 hne
  · rcases hs with hs | hs
    · have : (slotsOf all oj).contains d = true := by simpa using hs
      rw [this] at h2
      cases h2.1
    · exact absurd hs h2.2
  · exact .inl h2
  · exact .inr h2
end order
end Go.RX

namespace Go.RX

theorem look_filter_true {x : List (Nat × SV)} {f : Nat → Bool} {s : Nat} {v : SV} (h : look (x.filter fun y => f y.1) s = some v) : f s = true := by
  induction x with
  | nil => cases h
  | cons t r ih =>
    obtain ⟨q, u⟩ := t
    by_cases hf : f q = true
    · rw [List.filter_cons_of_pos (by exact hf)] at h
      unfold look at h
      split at h
      · rename_i hq
        rw [beq_iff_eq] at hq
        subst hq
        exact hf
      · exact ih h
    · rw [List.filter_cons_of_neg (by exact hf)] at h
      exact ih h

section
variable {P : Program} {C : Ctx} {Post : Value → List HP → Prop} {Fs : List HP} {w0 : World} {all : Array Oper} {pm : List Nat}

/-- What an operation that only looks will do, whenever it comes up. -/
def Will (P : Program) (all : Array Oper) (ro : Option Nat) (nt : NT) (i : Nat) (o : Oper) (v : Value) (base : Act) (hp : List Ck) (ρ : Env) (rd : List Nat) : Prop :=
  ∀ (a' : Act) (w' : World) (S : Nat → Nat → Prop) (K : Act → World → Prop) (Q : Exit → Act → World → Prop), (∀ s ∈ slotsOf all o, a'.tmps.getD s undef = base.tmps.getD s undef) → a'.defers = base.defers → nt.n ≤ a'.tmps.size →
    Reads hp ρ w' S rd → K (a'.put o.dst v) w' → wpOpIn (FW ro) 0 P all Q i K a' w'

theorem restrict_HA {fr : List (Nat × SV)} {nt : NT} {ρ : Env} {base a' : Act} {slots : List Nat} (h : HA fr nt ρ base) (hs : ∀ s ∈ slots, a'.tmps.getD s undef = base.tmps.getD s undef) (hd : a'.defers = base.defers) (hn : nt.n ≤ a'.tmps.size) :
    HA (restrict fr slots) nt ρ a' := by
  refine ⟨hd.trans h.defers, hn, fun s v hl => ?_⟩
  have h1 := look_of_filter (f := fun q => slots.contains q) hl
  have h2 := look_filter_true (f := fun q => slots.contains q) hl
  rw [hs s (by simpa using h2), h.slots s v h1]

theorem quiet_will (hT : checkT P C.T = true) {ro : Option Nat} {nt : NT} {i : Nat} {o : Oper} (hi : all[i]? = some o) {st : St} {ρ : Env} {base : Act} {g : Option BE} {res : Res}
    (hg : guardAt all (restrict st.fr (slotsOf all o)) st.known o = some g) (hr : stepQ C g { st with fr := restrict st.fr (slotsOf all o) } o = some res) (he : res.eff = .none)
    (hk : ∀ b ∈ st.known, b.prop ρ) (hl : Lens ρ st.cnt) (hvc : gden ρ g = true → ∀ b ∈ res.vcs, b.prop ρ) (ha : HA st.fr nt ρ base) :
    Will P all ro nt i o (if gden ρ g then res.val.val ρ else undef) base st.hp ρ res.rd := by
  intro a' w' S K Q hs hd hn hrd hK
  have ha' := restrict_HA ha hs hd hn
  have hwant := guardAt_sound ha' hk hg
  unfold wpOpIn
  simp only [hi]
  rw [hwant]
  cases hgd : gden ρ g with
  | false =>
    rw [if_neg (by simp)]
    rw [hgd, if_neg (by simp)] at hK
    exact ⟨fun _ _ => trivial, hK⟩
  | true =>
    rw [if_pos rfl]
    rw [hgd, if_pos rfl] at hK
    have hr : stepVal C g { st with fr := restrict st.fr (slotsOf all o) } o = some res := by
      rcases stepQ_spec hr with ⟨rfl, _⟩ | hr
      · cases hgd
      · exact hr
    obtain ⟨hsym, hrsc⟩ := stepVal_spec hr
    have hops : OpsOk ρ (look? g st.known (restrict st.fr (slotsOf all o))) a'.eval := ha'.evalKnown hk hgd
    have hD := symOp_sound (P := P) hT (Env.ok ρ) hops hsym hrd (hvc hgd) hl.b
    unfold Did at hD
    rw [he] at hD
    exact wpIn_of_run (not_defer hsym) (.inl hD) hK

abbrev lst (listed : Array Bool) (i : Nat) : Bool := listed.getD i false

/-- How a region stands, some of its operations done. -/
structure DI (P : Program) (Fs : List HP) (w0 : World) (all : Array Oper) (ro : Option Nat) (nt : NT) (a0 : Act) (listed : Array Bool) (a : Act) (w : World)
    (rest : List Nat) (done : Nat) (log : List (Nat × List Nat)) (st : St) (ρ : Env) (W : List Wr) : Prop where
  hw : HW Fs w0 st ρ w
  hnt : st.nt = nt
  act : a = puts a0 (W.filter fun x => lst listed x.1)
  ha : HA st.fr nt ρ (puts a0 W)
  nd : (W.map (·.1)).Nodup
  done : ∀ i, done.testBit i = true ↔ i ∈ W.map (·.1)
  rest : ∀ i, i ∈ rest ↔ i < all.size ∧ i ∉ W.map (·.1)
  sub : ∀ i, lst listed i = true → i ∈ W.map (·.1)
  lsz : listed.size = all.size
  clL : ∀ p o, all[p]? = some o → lst listed p = true → ∀ e ∈ o.after, Region.binds .any e = true → lst listed e.on = true
  clW : ∀ W1 x W2, W = W1 ++ x :: W2 → ∃ o, all[x.1]? = some o ∧ x.2.1 = o.dst ∧ ∀ e ∈ o.after, Region.binds .any e = true → e.on ∈ W1.map (·.1)
  pend : ∀ W1 x W2, W = W1 ++ x :: W2 → lst listed x.1 = false → ∃ o rd hp ρ', all[x.1]? = some o ∧ (x.1, rd) ∈ log ∧ Will P all ro nt x.1 o x.2.2 (puts a0 W1) hp ρ' rd ∧
    ∀ j ∈ rd, ∀ ck, hp[j]? = some ck → ∃ ck', st.hp[j]? = some ck' ∧ ck'.den ρ = ck.den ρ'

section agree
variable {ro : Option Nat} {nt : NT} {a0 : Act} {listed : Array Bool} {a : Act} {w : World} {rest : List Nat} {done : Nat} {log : List (Nat × List Nat)} {st : St} {ρ : Env} {W : List Wr}

theorem DI.clPre (h : DI P Fs w0 all ro nt a0 listed a w rest done log st ρ W) {A B : List Wr} (hW : W = A ++ B) :
    ∀ p o, all[p]? = some o → p ∈ A.map (·.1) → ∀ e ∈ o.after, Region.binds .any e = true → e.on ∈ A.map (·.1) := by
  intro p o ho hp e he hb
  obtain ⟨y, hy, rfl⟩ := List.mem_map.1 hp
  obtain ⟨A1, A2, rfl⟩ := List.append_of_mem hy
  obtain ⟨o', ho', _, hpre⟩ := h.clW A1 y (A2 ++ B) (by rw [hW]; simp)
  rw [ho] at ho'
  cases ho'
  have := hpre e he hb
  rw [List.map_append]
  exact List.mem_append_left _ this

/-- Who has written a slot that an operation is about. -/
theorem DI.before (h : DI P Fs w0 all ro nt a0 listed a w rest done log st ρ W) (hord : orderedB all pm = true) (hpm : pmOk all pm = true) {i : Nat} {o : Oper} (hi : all[i]? = some o)
    (hready : ∀ e ∈ o.after, Region.binds .any e = true → lst listed e.on = true) {W1 tail : List Wr} (hW : W = W1 ++ tail) (hni : i ∉ W1.map (·.1)) {s : Nat} (hs : s ∈ slotsOf all o ∨ o.dst = some s) :
    ∀ y ∈ W1, y.2.1 = some s → lst listed y.1 = true := by
  intro y hy hys
  obtain ⟨A, B, rfl⟩ := List.append_of_mem hy
  obtain ⟨oy, hoy, hdy, hpre⟩ := h.clW A y (B ++ tail) (by rw [hW]; simp)
  have hne : y.1 ≠ i := fun e => hni (by rw [← e]; simp)
  have hyl : y.1 < all.size := (Array.getElem?_eq_some_iff.1 hoy).1
  have hil : i < all.size := (Array.getElem?_eq_some_iff.1 hi).1
  rcases orderedB_spec hord hoy hi (hdy ▸ hys) hs hne with hb | hb
  · exact ahead_pm hpm (fun q => lst listed q = true) h.clL hi hready hyl hb
  · have := ahead_pm hpm (fun q => q ∈ A.map (·.1)) (h.clPre (A := A) (B := y :: (B ++ tail)) (by rw [hW]; simp)) hoy hpre hil hb
    exact absurd (by rw [List.map_append]; exact List.mem_append_left _ this) hni

theorem DI.behind (h : DI P Fs w0 all ro nt a0 listed a w rest done log st ρ W) (hord : orderedB all pm = true) (hpm : pmOk all pm = true) {W1 W2 : List Wr} {x : Wr} {o : Oper} (hi : all[x.1]? = some o)
    (hnl : lst listed x.1 = false) (hW : W = W1 ++ x :: W2) {s : Nat} (hs : s ∈ slotsOf all o ∨ o.dst = some s) :
    ∀ y ∈ W2, y.2.1 = some s → lst listed y.1 = false := by
  intro y hy hys
  obtain ⟨A, B, rfl⟩ := List.append_of_mem hy
  obtain ⟨oy, hoy, hdy, hpre⟩ := h.clW (W1 ++ x :: A) y B (by rw [hW]; simp)
  obtain ⟨ox, hox, _, hprex⟩ := h.clW W1 x (A ++ y :: B) hW
  rw [hi] at hox
  cases hox
  have hnd := h.nd
  rw [hW] at hnd
  simp only [List.map_append, List.map_cons] at hnd
  rw [List.nodup_append] at hnd
  obtain ⟨_, hnd2, hnd3⟩ := hnd
  have hyl : y.1 < all.size := (Array.getElem?_eq_some_iff.1 hoy).1
  have hil : x.1 < all.size := (Array.getElem?_eq_some_iff.1 hi).1
  have hne : y.1 ≠ x.1 := fun e => by
    have := (List.nodup_cons.1 hnd2).1
    exact this (by rw [← e]; simp)
  rcases orderedB_spec hord hoy hi (hdy ▸ hys) hs hne with hb | hb
  · have := ahead_pm hpm (fun q => q ∈ W1.map (·.1)) (h.clPre (A := W1) (B := x :: (A ++ y :: B)) hW) hi hprex hyl hb
    exact absurd rfl (hnd3 _ this _ (by simp))
  · cases hl : lst listed y.1 with
    | false => rfl
    | true =>
      have := closed_pm hpm (fun q => lst listed q = true) h.clL y.1 oy hoy hl x.1 hil hb
      rw [hnl] at this
      cases this

theorem agree_slots {W1 tail : List Wr} {s : Nat} (h1 : ∀ y ∈ W1, y.2.1 = some s → lst listed y.1 = true) (h2 : ∀ y ∈ tail, y.2.1 = some s → lst listed y.1 = false) :
    (puts a0 ((W1 ++ tail).filter fun x => lst listed x.1)).tmps.getD s undef = (puts a0 W1).tmps.getD s undef := by
  rw [puts_slot s _ a0 a0 rfl rfl, puts_slot s W1 a0 a0 rfl rfl]
  have e2 : (tail.filter fun x => lst listed x.1).filter (fun x => x.2.1 == some s) = [] := by
    rw [List.filter_filter, List.filter_eq_nil_iff]
    intro y hy hc
    simp only [Bool.and_eq_true, beq_iff_eq] at hc
    rw [h2 y hy hc.1] at hc
    cases hc.2
  have e1 : (W1.filter fun x => lst listed x.1).filter (fun x => x.2.1 == some s) = W1.filter (fun x => x.2.1 == some s) := by
    rw [List.filter_filter]
    refine List.filter_congr fun y hy => ?_
    by_cases hys : y.2.1 = some s
    · rw [h1 y hy hys, Bool.and_true]
    · have : (y.2.1 == some s) = false := by simpa using hys
      rw [this, Bool.false_and]
  rw [List.filter_append, List.filter_append, e1, e2, List.append_nil]
end agree
end
end Go.RX

namespace Go.RX

theorem testBit_set (done i j : Nat) : (done ||| (1 <<< i)).testBit j = (done.testBit j || decide (i = j)) := by
  rw [Nat.testBit_or, Nat.one_shiftLeft, Nat.testBit_two_pow]

theorem snoc_cases {α : Type} {W : List α} {x : α} {W1 : List α} {y : α} {W2 : List α} (h : W ++ [x] = W1 ++ y :: W2) : (W2 = [] ∧ y = x ∧ W1 = W) ∨ ∃ W2', W2 = W2' ++ [x] ∧ W = W1 ++ y :: W2' := by
  rcases List.eq_nil_or_concat W2 with rfl | ⟨W2', z, rfl⟩
  · left
    have := List.append_inj' h rfl
    exact ⟨rfl, by simpa using this.2.symm, this.1.symm⟩
  · right
    have h' : W ++ [x] = (W1 ++ y :: W2') ++ [z] := by rw [h]; simp [List.concat_eq_append]
    have := List.append_inj' h' rfl
    have hz : x = z := by simpa using this.2
    subst hz
    exact ⟨W2', by simp [List.concat_eq_append], this.1⟩

theorem readyB_spec {all : Array Oper} {done i : Nat} (h : readyB all done i = true) : ∃ o, all[i]? = some o ∧ ∀ e ∈ o.after, Region.binds .any e = true → done.testBit e.on = true := by
  unfold readyB at h
  split at h
  · rename_i o ho
    refine ⟨o, ho, fun e he hb => ?_⟩
    have := List.all_eq_true.1 h e (by simpa using he)
    simpa [hb] using this
  · cases h
theorem readyB_of {all : Array Oper} {done i : Nat} {o : Oper} (ho : all[i]? = some o) (h : ∀ e ∈ o.after, Region.binds .any e = true → done.testBit e.on = true) : readyB all done i = true := by
  unfold readyB
  simp only [ho]
  refine List.all_eq_true.2 fun e he => ?_
  cases hb : Region.binds .any e with
  | false => rfl
  | true => rw [h e (by simpa using he) hb]; rfl

section
variable {P : Program} {C : Ctx} {Post : Value → List HP → Prop} {Fs : List HP} {w0 : World} {all : Array Oper} {pm : List Nat}
variable {ro : Option Nat} {nt : NT} {a0 : Act} {listed : Array Bool} {a : Act} {w : World} {rest : List Nat} {done : Nat} {log : List (Nat × List Nat)} {st : St} {ρ : Env} {W : List Wr}

/-- An operation that looks, met in the formula: it waits. -/
theorem DI.quiet (hT : checkT P C.T = true) (h : DI P Fs w0 all ro nt a0 listed a w rest done log st ρ W) {i : Nat} {o : Oper} (hir : i ∈ rest) (hrd : readyB all done i = true) (hi : all[i]? = some o) (hdst : okDst st o.dst = true)
    {g : Option BE} {res : Res} (hg : guardAt all (restrict st.fr (slotsOf all o)) st.known o = some g) (hgs : gsc st.cnt g = true)
    (hr : stepQ C g { st with fr := restrict st.fr (slotsOf all o) } o = some res) (he : res.eff = .none) (hvc : gden ρ g = true → ∀ b ∈ res.vcs, b.prop ρ) :
    DI P Fs w0 all ro nt a0 listed a w (rest.filter fun j => j != i) (done ||| (1 <<< i)) ((i, res.rd) :: log)
      (({ st with known := gknown g res.vcs st.known } : St).put o.dst (gval g res.val)) ρ
      (W ++ [(i, o.dst, if gden ρ g then res.val.val ρ else undef)]) := by
  have hrsc : res.sc st.cnt = true := by
    rcases stepQ_spec hr with ⟨_, rfl⟩ | hr
    · rfl
    · exact (stepVal_spec hr).2
  have hrsc' := hrsc
  simp only [Res.sc, Bool.and_eq_true, he, Eff.grow] at hrsc'
  obtain ⟨⟨hs1, hs2⟩, _⟩ := hrsc'
  have hiW : i ∉ W.map (·.1) := ((h.rest i).1 hir).2
  have hnl : lst listed i = false := by
    cases hl : lst listed i with
    | false => rfl
    | true => exact absurd (h.sub i hl) hiW
  have hv : (if gden ρ g = true then res.val.val ρ else undef) = (gval g res.val).val ρ := by
    cases g with
    | none => rfl
    | some c => rfl
  have hsc : (gval g res.val).sc st.cnt = true := by
    cases g with
    | none => exact hs1
    | some c => simp only [gval, SV.sc, Bool.and_eq_true]; exact ⟨hgs, hs1⟩
  have hw1 : HW Fs w0 ({ st with known := gknown g res.vcs st.known } : St) ρ w := by
    cases g with
    | some c => exact h.hw
    | none =>
      refine ⟨h.hw.lens, h.hw.scf, h.hw.sch, ?_, fun b hb => ?_, h.hw.own, h.hw.same, h.hw.scd⟩
      · show (more res.vcs st.known).all (BE.sc st.cnt) = true
        unfold more
        rw [List.all_append, h.hw.sck, Bool.and_true]
        exact List.all_eq_true.2 fun x hx => List.all_eq_true.1 hs2 x (List.mem_filter.1 hx).1
      · exact (List.mem_append.1 hb).elim (fun hm => hvc rfl b (List.mem_filter.1 hm).1) (h.hw.kn b)
  have e := put_rest ({ st with known := gknown g res.vcs st.known } : St) o.dst (gval g res.val)
  refine ⟨hw1.put hsc, by rw [e.2.2.2.1]; exact h.hnt, ?_, ?_, ?_, ?_, ?_, ?_, h.lsz, h.clL, ?_, ?_⟩
  · rw [List.filter_append, List.filter_cons_of_neg (by simp [hnl]), List.filter_nil, List.append_nil]
    exact h.act
  · rw [puts_append, puts_one]
    refine HA.put h.ha (fun x hx => ?_) hv _ rfl
    rw [← h.hnt]
    exact okDst_lt hdst x hx
  · rw [List.map_append, List.nodup_append]
    exact ⟨h.nd, by simp, fun x hx y hy => by
      simp only [List.map_cons, List.map_nil, List.mem_singleton] at hy
      subst hy
      intro hxy
      subst hxy
      exact hiW hx⟩
  · intro j
    rw [testBit_set, Bool.or_eq_true, h.done, List.map_append, List.mem_append]
    simp only [decide_eq_true_eq, List.map_cons, List.map_nil, List.mem_singleton]
    exact ⟨fun hj => hj.imp id Eq.symm, fun hj => hj.imp id Eq.symm⟩
  · intro j
    rw [List.mem_filter, h.rest, List.map_append, List.mem_append]
    simp only [bne_iff_ne, ne_eq, List.map_cons, List.map_nil, List.mem_singleton, not_or, and_assoc]
  · intro j hj
    rw [List.map_append]
    exact List.mem_append_left _ (h.sub j hj)
  · intro W1 x W2 hW
    rcases snoc_cases hW with ⟨rfl, rfl, rfl⟩ | ⟨W2', rfl, hW'⟩
    · obtain ⟨o', ho', hpre⟩ := readyB_spec hrd
      rw [hi] at ho'
      cases ho'
      exact ⟨o, hi, rfl, fun e he hb => (h.done _).1 (hpre e he hb)⟩
    · exact h.clW W1 x W2' hW'
  · intro W1 x W2 hW hnlx
    rcases snoc_cases hW with ⟨rfl, rfl, rfl⟩ | ⟨W2', rfl, hW'⟩
    · refine ⟨o, res.rd, st.hp, ρ, hi, List.mem_cons_self, ?_, fun j _ ck hck => ⟨ck, by rw [e.1]; exact hck, rfl⟩⟩
      exact quiet_will hT hi hg hr he h.hw.kn h.hw.lens hvc (h.ha)
    · obtain ⟨o', rd, hp, ρ', h1, h2, h3, h4⟩ := h.pend W1 x W2' hW' hnlx
      exact ⟨o', rd, hp, ρ', h1, List.mem_cons_of_mem _ h2, h3, by rw [e.1]; exact h4⟩

theorem lst_set {listed : Array Bool} {i j : Nat} (hi : i < listed.size) : lst (listed.setIfInBounds i true) j = (decide (i = j) || lst listed j) := by
  unfold lst
  by_cases h : i = j
  · subst h
    simp [Array.getElem?_setIfInBounds_self_of_lt hi]
  · rw [getD_set_ne false h]
    simp [h]

/-- One that has waited comes up. -/
theorem DI.pending (h : DI P Fs w0 all ro nt a0 listed a w rest done log st ρ W) (hord : orderedB all pm = true) (hpm : pmOk all pm = true) {i : Nat} {o : Oper} (hi : all[i]? = some o) (hnl : lst listed i = false)
    (hready : ∀ e ∈ o.after, Region.binds .any e = true → lst listed e.on = true) (hiW : i ∈ W.map (·.1)) (Q : Exit → Act → World → Prop) (K : Act → World → Prop)
    (hK : ∀ a', DI P Fs w0 all ro nt a0 (listed.setIfInBounds i true) a' w rest done log st ρ W → K a' w) : wpOpIn (FW ro) 0 P all Q i K a w := by
  obtain ⟨x, hx, rfl⟩ := List.mem_map.1 hiW
  obtain ⟨W1, W2, hW⟩ := List.append_of_mem hx
  obtain ⟨o', rd, hp, ρ', h1, h2, h3, h4⟩ := h.pend W1 x W2 hW hnl
  rw [hi] at h1
  cases h1
  have hnd := h.nd
  rw [hW] at hnd
  simp only [List.map_append, List.map_cons] at hnd
  rw [List.nodup_append] at hnd
  obtain ⟨hnd1, hnd2, hnd3⟩ := hnd
  have hni : x.1 ∉ W1.map (·.1) := fun hc => hnd3 _ hc _ List.mem_cons_self rfl
  have hni2 : x.1 ∉ W2.map (·.1) := (List.nodup_cons.1 hnd2).1
  have hil : x.1 < listed.size := by rw [h.lsz]; exact (Array.getElem?_eq_some_iff.1 hi).1
  obtain ⟨S, hS⟩ := h.hw.own
  have hdst : x.2.1 = o.dst := by
    obtain ⟨o2, ho2, hd2, _⟩ := h.clW W1 x W2 hW
    rw [hi] at ho2
    cases ho2
    exact hd2
  refine h3 a w S K Q (fun s hs => ?_) ?_ ?_ ?_ (hK _ ?_)
  · rw [h.act, hW]
    refine agree_slots (fun y hy hys => h.before hord hpm hi hready hW hni (.inl hs) y hy hys) fun y hy hys => ?_
    rcases List.mem_cons.1 hy with rfl | hy
    · exact hnl
    · exact h.behind hord hpm hi hnl hW (.inl hs) y hy hys
  · rw [h.act, puts_defers, puts_defers]
  · rw [h.act, puts_size, ← puts_size W]; exact h.ha.size
  · intro j hj ck hck
    obtain ⟨ck', hck', hden⟩ := h4 j hj ck hck
    rw [← hden]
    exact Reads_of S hS rd j hj ck' hck'
  · have hlst : ∀ j, lst (listed.setIfInBounds x.1 true) j = (decide (x.1 = j) || lst listed j) := fun j => lst_set hil
    refine ⟨h.hw, h.hnt, ?_, h.ha, h.nd, h.done, h.rest, fun j hj => ?_, by simp [h.lsz], fun p op hop hp e he hb => ?_, h.clW, fun A y B hWy hny => ?_⟩
    · have f1 : W1.filter (fun y => lst (listed.setIfInBounds x.1 true) y.1) = W1.filter (fun y => lst listed y.1) := List.filter_congr fun y hy => by
        have : x.1 ≠ y.1 := fun e => hni (by rw [e]; exact List.mem_map.2 ⟨y, hy, rfl⟩)
        rw [hlst]; simp [this]
      have f2 : W2.filter (fun y => lst (listed.setIfInBounds x.1 true) y.1) = W2.filter (fun y => lst listed y.1) := List.filter_congr fun y hy => by
        have : x.1 ≠ y.1 := fun e => hni2 (by rw [e]; exact List.mem_map.2 ⟨y, hy, rfl⟩)
        rw [hlst]; simp [this]
      rw [h.act, hW, List.filter_append, List.filter_append, f1, List.filter_cons_of_neg (by simp [hnl]), List.filter_cons_of_pos (by rw [hlst]; simp), f2, puts_append, puts_append]
      have : x :: W2.filter (fun y => lst listed y.1) = [(x.1, x.2.1, x.2.2)] ++ W2.filter (fun y => lst listed y.1) := rfl
      rw [this, puts_append, puts_one, puts_comm, hdst]
      intro y hy s hs hys
      obtain ⟨hy1, hy2⟩ := List.mem_filter.1 hy
      have := h.behind hord hpm hi hnl hW (.inr (hdst ▸ hs)) y hy1 hys
      rw [this] at hy2
      cases hy2
    · rw [hlst, Bool.or_eq_true] at hj
      rcases hj with hj | hj
      · rw [← of_decide_eq_true hj]; exact hiW
      · exact h.sub j hj
    · rw [hlst, Bool.or_eq_true] at hp ⊢
      rcases hp with hp | hp
      · have := of_decide_eq_true hp
        subst this
        rw [hi] at hop
        cases hop
        exact .inr (hready e he hb)
      · exact .inr (h.clL p op hop hp e he hb)
    · rw [hlst, Bool.or_eq_false_iff] at hny
      exact h.pend A y B hWy hny.2
end
end Go.RX

namespace Go.RX

section
variable {P : Program} {C : Ctx} {Post : Value → List HP → Prop} {Fs : List HP} {w0 : World} {all : Array Oper} {pm : List Nat}
variable {ro : Option Nat} {nt : NT} {a0 : Act} {listed : Array Bool} {a : Act} {w : World} {rest : List Nat} {done : Nat} {log : List (Nat × List Nat)} {st : St} {ρ : Env} {W : List Wr}

theorem Oper.wpIn_put {F : Fence} {n : Nat} {o : Oper} {K : Act → World → Prop} {Q : Exit → Act → World → Prop} (hh : o.wpIn F n P a w K Q) :
    o.wpIn F n P a w (fun a' w' => K a' w' ∧ (a'.defers ≠ a.defers ∨ ∃ u, a' = a.put o.dst u)) Q := by
  unfold Oper.wpIn at *
  refine ⟨hh.1, ?_⟩
  have hh := hh.2
  generalize (o.semAt F.round a.eval).run P w = r at *
  cases r with
  | ok x w' =>
    cases x <;> simp only [Oper.uponIn] at hh ⊢ <;>
      first
        | exact ⟨hh, .inr ⟨_, rfl⟩⟩
        | exact ⟨hh, .inl (by rw [put_defers]; simp)⟩
        | exact ⟨hh.1, CallsIn.mono hh.2 (fun e w'' he => by cases e <;> first | exact ⟨he, .inr ⟨_, rfl⟩⟩ | exact he)⟩
        | exact ⟨hh.1, RowsIn.mono hh.2 (fun _ _ he => ⟨he, .inr ⟨_, rfl⟩⟩)⟩
        | exact ⟨hh.1, RoundIn.mono hh.2 (fun e w'' he => by cases e <;> first | exact ⟨he, .inr ⟨_, rfl⟩⟩ | exact he)⟩
        | exact hh
  | halt x w' => cases x <;> simp only [Oper.uponIn] at hh ⊢ <;> exact hh

theorem Oper.wpIn_mono3 {F : Fence} {n : Nat} {o : Oper} {K K' : Act → World → Prop} {Q Q' : Exit → Act → World → Prop} (h : ∀ a w, K a w → K' a w) (hq : ∀ c a w, ¬ Q (.panic c) a w) (ho : ¬ LetsOut Q)
    (hh : o.wpIn F n P a w K Q) : o.wpIn F n P a w K' Q' := by
  unfold Oper.wpIn at *
  refine ⟨hh.1, ?_⟩
  have hh := hh.2
  generalize (o.semAt F.round a.eval).run P w = r at *
  cases r with
  | ok x w' =>
    cases x <;> simp only [Oper.uponIn] at hh ⊢ <;>
      first
        | exact h _ _ hh
        | exact ⟨hh.1, CallsIn.mono hh.2 (fun e w'' he => by cases e <;> first | exact h _ _ he | exact absurd he (hq _ _ _) | exact absurd he ho)⟩
        | exact ⟨hh.1, RowsIn.mono hh.2 (fun _ _ he => h _ _ he)⟩
        | exact ⟨hh.1, RoundIn.mono hh.2 (fun e w'' he => by cases e <;> first | exact h _ _ he | exact absurd he (hq _ _ _) | exact absurd he ho)⟩
  | halt x w' => cases x <;> simp only [Oper.uponIn] at hh ⊢ <;> first | exact absurd hh (hq _ _ _) | exact hh

theorem kept_spec {c : Cnt} {hp hp' : List Ck} {rd : List Nat} {ρ ρ' : Env} (h : kept c hp hp' rd = true) (hag : Agree c ρ ρ') {j : Nat} (hj : j ∈ rd) {a : Ck} (ha : hp[j]? = some a) :
    ∃ b, hp'[j]? = some b ∧ b.den ρ' = a.den ρ := by
  have h1 := List.all_eq_true.1 h j hj
  simp only [ha] at h1
  split at h1
  · rename_i x b hx hb
    cases hx
    split at h1
    · rename_i l hl
      refine ⟨b, hb, (unifyCk_sound hag.va hl fun y hy => trivial_holds hag (List.all_eq_true.1 h1 y hy)).symm⟩
    · cases h1
  · rename_i hx
    cases hx
  · cases h1

/-- An operation that acts comes up. -/
theorem DI.effect {n : Nat} (IHo : SoundO P C Post Fs w0 n) {k : List KI} (hstk : Stk ρ k ro) (h : DI P Fs w0 all ro nt a0 listed a w rest done log st ρ W) (hord : orderedB all pm = true) (hpm : pmOk all pm = true) {e : Nat} {o : Oper} (he : all[e]? = some o) (her : e ∈ rest)
    (hnl : lst listed e = false) (hready : ∀ x ∈ o.after, Region.binds .any x = true → lst listed x.on = true) (hdst : okDst st o.dst = true) {L : Nat → LC}
    (hv : VC P Post (run C n (.ops all [o] :: .dret all pm e rest done log st.fn st.nt st.fr st.hp st.cnt :: k) { st with fr := restrict st.fr (slotsOf all o) }) ρ L) (Q : Exit → Act → World → Prop) (K : Act → World → Prop)
    (hK : ∀ a' w', (∃ m, m < n ∧ ∃ rest done log st ρ' L' W, VC P Post (run C m (.dops all pm rest done log :: k) st) ρ' L' ∧ Env.Le ρ ρ' ∧ (∀ j, j < nl k → L' j = L j) ∧ DI P Fs w0 all ro nt a0 (listed.setIfInBounds e true) a' w' rest done log st ρ' W) → K a' w') :
    wpOpIn (FW ro) 0 P all Q e K a w := by
  have heW : e ∉ W.map (·.1) := ((h.rest e).1 her).2
  have hel : e < listed.size := by rw [h.lsz]; exact (Array.getElem?_eq_some_iff.1 he).1
  have hdef : a.defers = (puts a0 W).defers := by rw [h.act, puts_defers, puts_defers]
  have hsz : nt.n ≤ a.tmps.size := by rw [h.act, puts_size, ← puts_size W]; exact h.ha.size
  have ha : HA (restrict st.fr (slotsOf all o)) nt ρ a := by
    refine restrict_HA h.ha (fun s hs => ?_) hdef hsz
    rw [h.act]
    have := agree_slots (a0 := a0) (listed := listed) (W1 := W) (tail := []) (s := s) (fun y hy hys => h.before hord hpm he hready (tail := []) (by simp) heW (.inl hs) y hy hys) (fun y hy => by cases hy)
    rwa [List.append_nil] at this
  have hw : HW Fs w0 { st with fr := restrict st.fr (slotsOf all o) } ρ w :=
    ⟨h.hw.lens, List.all_eq_true.2 fun x hx => List.all_eq_true.1 h.hw.scf x (List.mem_filter.1 hx).1, h.hw.sch, h.hw.sck, h.hw.kn, h.hw.own, h.hw.same, h.hw.scd⟩
  have hwp := IHo ro all [o] _ _ ρ L a w hv hw (by rw [show ({ st with fr := restrict st.fr (slotsOf all o) } : St).nt = st.nt from rfl, h.hnt]; exact ha) (hstk.push rfl)
  -- what is behind it
  have fin : ∀ a' w', QK P C Post Fs w0 n (.dret all pm e rest done log st.fn st.nt st.fr st.hp st.cnt :: k) ρ L .normal a' w' → (a'.defers ≠ a.defers ∨ ∃ u, a' = a.put o.dst u) → K a' w' := by
    intro a' w' hq hor
    obtain ⟨k', hk, m, hm, st', ρ', L', g1, g2, g3, g4, g5⟩ := hq
    cases hk
    cases m with
    | zero => exact g5.elim
    | succ m =>
      simp only [run, he] at g5
      split at g5
      case isFalse => exact g5.elim
      rename_i hlog
      rw [Bool.and_eq_true, beq_iff_eq] at hlog
      obtain ⟨hlog, hnt'⟩ := hlog
      obtain ⟨u, rfl⟩ : ∃ u, a' = a.put o.dst u := by
        rcases hor with hor | hor
        · rw [g4.defers, hdef, h.ha.defers, hnt', h.hnt] at hor
          exact absurd (marks_sc (Env.Le.agree h.hw.lens g1) (by rw [← h.hnt]; exact h.hw.scd)).symm hor
        · exact hor
      split at g5
      case h_2 => exact g5.elim
      rename_i v hv'
      have hag := Env.Le.agree h.hw.lens g1
      have hcl := Lens.le h.hw.lens g3.lens g1
      have hvs : v.sc st'.cnt = true := by
        cases hd : o.dst with
        | none => rw [hd] at hv'; simp only [Option.some.injEq] at hv'; subst hv'; rfl
        | some d => rw [hd] at hv'; exact look_sc g3.scf hv'
      have hw3 : HW Fs w0 (setNt st' st.fn st.nt st.fr) ρ' w' := ⟨g3.lens, frSc_mono hcl h.hw.scf, g3.sch, g3.sck, g3.kn, g3.own, g3.same, dsc_mono hcl h.hw.scd⟩
      have hpr := put_rest (setNt st' st.fn st.nt st.fr) o.dst v
      have hlst : ∀ j, lst (listed.setIfInBounds e true) j = (decide (e = j) || lst listed j) := fun j => lst_set hel
      refine hK _ _ ⟨m, by omega, _, _, _, _, ρ', L', W ++ [(e, o.dst, u)], g5, g1, g2, ?_⟩
      refine ⟨hw3.put hvs, by rw [hpr.2.2.2.1]; exact h.hnt, ?_, ?_, ?_, ?_, ?_, ?_, by simp [h.lsz], ?_, ?_, ?_⟩
      · have f1 : W.filter (fun y => lst (listed.setIfInBounds e true) y.1) = W.filter (fun y => lst listed y.1) := List.filter_congr fun y hy => by
          have : e ≠ y.1 := fun ee => heW (by rw [ee]; exact List.mem_map.2 ⟨y, hy, rfl⟩)
          rw [hlst]; simp [this]
        rw [List.filter_append, f1, List.filter_cons_of_pos (by rw [hlst]; simp), List.filter_nil, puts_append, puts_one, ← h.act]
      · rw [puts_append, puts_one]
        have ha3 := h.ha.more h.hw.scf (by rw [← h.hnt]; exact h.hw.scd) hag
        cases hd : o.dst with
        | none => exact ha3
        | some d =>
          have hdl : d < nt.n := by rw [← h.hnt]; exact okDst_lt hdst d hd
          refine HA.put ha3 (fun x hx => by cases hx; exact hdl) ?_ _ rfl
          rw [hd] at hv'
          have := g4.slots d v hv'
          rw [hd, put_self a d u (Nat.lt_of_lt_of_le hdl hsz)] at this
          exact this
      · rw [List.map_append, List.nodup_append]
        exact ⟨h.nd, by simp, fun x hx y hy => by
          simp only [List.map_cons, List.map_nil, List.mem_singleton] at hy
          subst hy
          intro hxy
          subst hxy
          exact heW hx⟩
      · intro j
        rw [testBit_set, Bool.or_eq_true, h.done, List.map_append, List.mem_append]
        simp only [decide_eq_true_eq, List.map_cons, List.map_nil, List.mem_singleton]
        exact ⟨fun hj => hj.imp id Eq.symm, fun hj => hj.imp id Eq.symm⟩
      · intro j
        rw [List.mem_filter, h.rest, List.map_append, List.mem_append]
        simp only [bne_iff_ne, ne_eq, List.map_cons, List.map_nil, List.mem_singleton, not_or, and_assoc]
      · intro j hj
        rw [List.map_append, List.mem_append]
        rw [hlst, Bool.or_eq_true] at hj
        rcases hj with hj | hj
        · right
          rw [← of_decide_eq_true hj]
          simp
        · exact .inl (h.sub j hj)
      · intro p op hop hp x hx hb
        rw [hlst, Bool.or_eq_true] at hp ⊢
        rcases hp with hp | hp
        · have := of_decide_eq_true hp
          subst this
          rw [he] at hop
          cases hop
          exact .inr (hready x hx hb)
        · exact .inr (h.clL p op hop hp x hx hb)
      · intro W1 x W2 hW
        rcases snoc_cases hW with ⟨rfl, rfl, rfl⟩ | ⟨W2', rfl, hW'⟩
        · exact ⟨o, he, rfl, fun x hx hb => h.sub _ (hready x hx hb)⟩
        · exact h.clW W1 x W2' hW'
      · intro W1 x W2 hW hnlx
        rcases snoc_cases hW with ⟨rfl, rfl, rfl⟩ | ⟨W2', rfl, hW'⟩
        · rw [hlst] at hnlx
          simp at hnlx
        · rw [hlst, Bool.or_eq_false_iff] at hnlx
          obtain ⟨o', rd, hp, ρ1, h1, h2, h3, h4⟩ := h.pend W1 x W2' hW' hnlx.2
          refine ⟨o', rd, hp, ρ1, h1, h2, h3, fun j hj ck hck => ?_⟩
          obtain ⟨ck', hck', hden⟩ := h4 j hj ck hck
          have hx := List.all_eq_true.1 hlog _ h2
          simp only [Bool.or_eq_true] at hx
          rcases hx with hx | hx
          · have hxl : x.1 < all.size := (Array.getElem?_eq_some_iff.1 h1).1
            have := ahead_pm hpm (fun q => lst listed q = true) h.clL he hready hxl hx
            rw [hnlx.2] at this
            cases this
          · obtain ⟨b, hb, hbd⟩ := kept_spec hx hag hj hck'
            exact ⟨b, by rw [hpr.1]; exact hb, by rw [hbd, hden]⟩
  unfold wpOpIn
  simp only [he]
  unfold wpListIn at hwp
  split
  · rename_i hwant
    rw [if_pos hwant] at hwp
    refine Oper.wpIn_mono3 (fun a' w' hh => fin a' w' hh.1 hh.2) (fun c a' w' hq => ?_) (fun hq => ?_) (Oper.wpIn_put hwp)
    · obtain ⟨k', hk, _⟩ := hq; cases hk
    · obtain ⟨_, _, k', hk, _⟩ := hq; cases hk
  · rename_i hwant
    rw [if_neg hwant] at hwp
    exact ⟨hwp.1, fin _ _ hwp.2 (.inr ⟨undef, rfl⟩)⟩

theorem DI.descend (hT : checkT P C.T = true) {k : List KI} {L : Nat → LC} : ∀ {m : Nat} {rest : List Nat} {done : Nat} {log : List (Nat × List Nat)} {st : St} {W : List Wr},
    VC P Post (run C m (.dops all pm rest done log :: k) st) ρ L → DI P Fs w0 all ro nt a0 listed a w rest done log st ρ W →
    ∃ m', m' ≤ m ∧ ∃ rest done log st W, VC P Post (run C m' (.dops all pm rest done log :: k) st) ρ L ∧ DI P Fs w0 all ro nt a0 listed a w rest done log st ρ W ∧
      (rest = [] ∨ (rest.find? fun i => isQuiet all i && readyB all done i) = none)
  | 0, rest, done, log, st, W, hv, _ => hv.elim
  | m + 1, [], done, log, st, W, hv, h => ⟨m + 1, Nat.le_refl _, [], done, log, st, W, hv, h, .inl rfl⟩
  | m + 1, x :: r, done, log, st, W, hv, h => by
    cases hf : (x :: r).find? fun i => isQuiet all i && readyB all done i with
    | none => exact ⟨m + 1, Nat.le_refl _, x :: r, done, log, st, W, hv, h, .inr hf⟩
    | some i =>
      have hmem := List.mem_of_find?_eq_some hf
      have hcond := List.find?_some hf
      simp only [Bool.and_eq_true] at hcond
      simp only [run, hf] at hv
      split at hv
      case h_2 => exact hv.elim
      rename_i o ho
      split at hv
      case isFalse => exact hv.elim
      rename_i hdst
      split at hv
      · exact hv.elim
      · rename_i g hg
        split at hv
        case isFalse => exact hv.elim
        rename_i hgs
        split at hv
        case h_2 => exact hv.elim
        rename_i res hres
        split at hv
        case h_2 => exact hv.elim
        rename_i heff
        obtain ⟨hvc, hv⟩ := wrapVc_sound h.hw.kn hv
        obtain ⟨m', hm', q⟩ := DI.descend hT hv (h.quiet hT hmem hcond.2 ho hdst hg hgs hres heff hvc)
        exact ⟨m', by omega, q⟩

def unl (all : Array Oper) (listed : Array Bool) : Nat := (List.range all.size).countP fun i => !lst listed i

theorem unl_set (hl : listed.size = all.size) {i : Nat} (hi : i < all.size) (hn : lst listed i = false) : unl all (listed.setIfInBounds i true) + 1 ≤ unl all listed := by
  unfold unl
  have key : ∀ (l : List Nat), l.Nodup → i ∈ l → l.countP (fun j => !lst (listed.setIfInBounds i true) j) + 1 ≤ l.countP (fun j => !lst listed j) := by
    intro l
    induction l with
    | nil => intro _ h; cases h
    | cons x r ih =>
      intro hnd hm
      rw [List.nodup_cons] at hnd
      rw [List.countP_cons, List.countP_cons, lst_set (by omega)]
      by_cases hx : i = x
      · subst hx
        have : r.countP (fun j => !lst (listed.setIfInBounds i true) j) = r.countP (fun j => !lst listed j) := List.countP_congr fun j hj => by
          have : i ≠ j := fun e => hnd.1 (e ▸ hj)
          rw [lst_set (by omega)]; simp [this]
        rw [this]
        simp [hn]
      · have hm' : i ∈ r := (List.mem_cons.1 hm).resolve_left hx
        have := ih hnd.2 hm'
        simp only [hx, decide_false, Bool.false_or]
        omega
  exact key _ List.nodup_range (List.mem_range.2 hi)
theorem unl_zero (h : unl all listed = 0) : ∀ i, i < all.size → lst listed i = true := by
  intro i hi
  unfold unl at h
  rw [List.countP_eq_zero] at h
  have := h i (List.mem_range.2 hi)
  simpa using this

theorem DI.ready_nil (h : DI P Fs w0 all ro nt a0 listed a w rest done log st ρ W) (hpm : pmOk all pm = true) (hr : Region.ready .any all listed = []) : ∀ i, i < all.size → lst listed i = true := by
  intro i
  induction i using Nat.strongRecOn with
  | _ i ih =>
    intro hi
    cases hl : lst listed i with
    | true => rfl
    | false =>
      have hoi : all[i]? = some all[i] := Array.getElem?_eq_getElem hi
      have : i ∈ Region.ready .any all listed := by
        rw [mem_ready]
        refine ⟨?_, _, hoi, fun e he hb => ?_⟩
        · have hil : i < listed.size := by rw [h.lsz]; exact hi
          unfold lst at hl
          rw [Array.getD_eq_getD_getElem?, Array.getElem?_eq_getElem hil] at hl ⊢
          exact hl
        · have := (pmOk_spec hpm hoi).1 e he hb
          exact ih e.on this (by omega)
      rw [hr] at this
      cases this

theorem allDone {listed : Array Bool} {a : Act} {w : World} {m : Nat} {n : Nat} {rest : List Nat} {done : Nat} {log : List (Nat × List Nat)} {st : St} {ρ : Env} {W : List Wr} {k : List KI} {L : Nat → LC} {ρb : Env} {Lb : Nat → LC}
    (hall : ∀ i, i < all.size → lst listed i = true) (hm : m ≤ n) (hv : VC P Post (run C m (.dops all pm rest done log :: k) st) ρ L) (hle : Env.Le ρb ρ) (hL : ∀ j, j < nl k → L j = Lb j)
    (h : DI P Fs w0 all ro nt a0 listed a w rest done log st ρ W) : QK P C Post Fs w0 n k ρb Lb .normal a w := by
  have hre : rest = [] := by
    cases hr : rest with
    | nil => rfl
    | cons x r =>
      have := (h.rest x).1 (by rw [hr]; exact List.mem_cons_self)
      exact absurd (h.sub x (hall x this.1)) this.2
  subst hre
  cases m with
  | zero => exact hv.elim
  | succ m =>
    simp only [run] at hv
    have hW : W.filter (fun x => lst listed x.1) = W := by
      rw [List.filter_eq_self]
      intro x hx
      obtain ⟨A, B, hAB⟩ := List.append_of_mem hx
      obtain ⟨o, ho, _⟩ := h.clW A x B hAB
      exact hall x.1 (Array.getElem?_eq_some_iff.1 ho).1
    have hact := h.act
    rw [hW] at hact
    refine ⟨k, rfl, m, by omega, st, ρ, L, hle, hL, h.hw, ?_, hv⟩
    rw [hact, h.hnt]
    exact h.ha

theorem bothF_mem {ρ : Env} {L : Nat → LC} : ∀ {l : List F}, VC P Post (bothF l) ρ L → ∀ x ∈ l, VC P Post x ρ L
  | [], h, _, _ => h.elim
  | [x], h, y, hy => by
    rw [List.mem_singleton] at hy
    exact hy ▸ h
  | x :: y :: r, h, z, hz => by
    rcases List.mem_cons.1 hz with rfl | hz
    · exact h.1
    · exact bothF_mem h.2 z hz
/-- Whatever order is drawn. -/
theorem dops_any (hT : checkT P C.T = true) {n : Nat} (IHo : ∀ m, m < n → SoundO P C Post Fs w0 m) (hord : orderedB all pm = true) (hpm : pmOk all pm = true) {k : List KI} {ρb : Env} {Lb : Nat → LC} (hstk : Stk ρb k ro) :
    ∀ (fuel : Nat) (listed : Array Bool) (a : Act) (w : World), unl all listed ≤ fuel →
      (∃ m, m ≤ n ∧ ∃ rest done log st ρ L W, VC P Post (run C m (.dops all pm rest done log :: k) st) ρ L ∧ Env.Le ρb ρ ∧ (∀ j, j < nl k → L j = Lb j) ∧ DI P Fs w0 all ro nt a0 listed a w rest done log st ρ W) →
      wpAnyIn (FW ro) 0 P .any all (QK P C Post Fs w0 n k ρb Lb) fuel listed a w := by
  intro fuel
  induction fuel with
  | zero =>
    intro listed a w hf ⟨m, hm, rest, done, log, st, ρ, L, W, hv, hle, hL, h⟩
    have hall := unl_zero (Nat.le_zero.1 hf)
    refine ⟨?_, ?_⟩
    · cases hr : Region.ready .any all listed with
      | nil => rfl
      | cons i r =>
        have : i ∈ Region.ready .any all listed := by rw [hr]; exact List.mem_cons_self
        rw [mem_ready] at this
        obtain ⟨h0, o, ho, _⟩ := this
        have hi : i < all.size := (Array.getElem?_eq_some_iff.1 ho).1
        have hl := hall i hi
        unfold lst at hl
        have hil : i < listed.size := by rw [h.lsz]; exact hi
        rw [Array.getD_eq_getD_getElem?, Array.getElem?_eq_getElem hil] at hl h0
        simp at hl h0
        rw [hl] at h0
        cases h0
    · exact allDone hall hm hv hle hL h
  | succ fuel ih =>
    intro listed a w hf ⟨m, hm, rest, done, log, st, ρ, L, W, hv, hle, hL, h⟩
    refine ⟨fun hr => allDone (h.ready_nil hpm hr) hm hv hle hL h, fun i hi => ?_⟩
    rw [mem_ready] at hi
    obtain ⟨h0, o, ho, hpre⟩ := hi
    have hil : i < all.size := (Array.getElem?_eq_some_iff.1 ho).1
    have hnl : lst listed i = false := by
      have : i < listed.size := by rw [h.lsz]; exact hil
      unfold lst
      rw [Array.getD_eq_getD_getElem?, Array.getElem?_eq_getElem this] at h0 ⊢
      exact h0
    have hlow : unl all (listed.setIfInBounds i true) ≤ fuel := by
      have := unl_set h.lsz hil hnl
      omega
    obtain ⟨m', hm', rest', done', log', st', W', hv', h', hmax⟩ := DI.descend hT hv h
    by_cases hiW : i ∈ W'.map (·.1)
    · exact h'.pending hord hpm ho hnl hpre hiW _ _ fun a' hD => ih _ _ _ hlow ⟨m', by omega, rest', done', log', st', ρ, L, W', hv', hle, hL, hD⟩
    · have hir : i ∈ rest' := (h'.rest i).2 ⟨hil, hiW⟩
      have hrd : readyB all done' i = true := readyB_of ho fun e he hb => (h'.done _).2 (h'.sub _ (hpre e he hb))
      rcases hmax with rfl | hmax
      · cases hir
      · cases m' with
        | zero => exact hv'.elim
        | succ m' =>
          cases hre : rest' with
          | nil => rw [hre] at hir; cases hir
          | cons x r =>
            rw [hre] at hv' hmax
            simp only [run, hmax] at hv'
            have hiL : i ∈ (x :: r).filter (readyB all done') := List.mem_filter.2 ⟨hre ▸ hir, hrd⟩
            have hv' := bothF_mem hv' _ (List.mem_map.2 ⟨i, hiL, rfl⟩)
            simp only [ho] at hv'
            split at hv'
            case isFalse => exact hv'.elim
            rename_i hdst
            rw [← hre] at hv'
            refine DI.effect (IHo m' (by omega)) (hstk.le hle) h' hord hpm ho hir hnl hpre hdst hv' _ _ fun a' w' hq => ih _ _ _ hlow ?_
            obtain ⟨m2, hm2, rest2, done2, log2, st2, ρ2, L2, W2, q1, q2, q3, q4⟩ := hq
            exact ⟨m2, by omega, rest2, done2, log2, st2, ρ2, L2, W2, q1, hle.trans q2, fun j hj => (q3 j hj).trans (hL j hj), q4⟩
theorem HW.drew (h : HW Fs w0 st ρ w) (d : Nat) : HW Fs w0 st ρ { w with drawn := d } := by
  refine ⟨h.lens, h.scf, h.sch, h.sck, h.kn, ?_, h.same.trans ⟨rfl, rfl, rfl, Nat.le_refl _⟩, h.scd⟩
  obtain ⟨S, hS⟩ := h.own
  exact ⟨S, hS.keep (Nat.le_refl _) fun _ _ => rfl⟩

theorem soundD_step (hT : checkT P C.T = true) (hm : P.follows .mixedOrders = true) {n : Nat} (IHo : ∀ m, m < n → SoundO P C Post Fs w0 m) : SoundD P C Post Fs w0 n := by
  intro ro id all pm k st ρ L a w hv hord hpm hw ha hstk
  refine wpIn_region_any hm (dops_any (ro := ro) (nt := st.nt) (a0 := a) hT IHo hord hpm hstk _ _ _ _ ?_ ⟨n, Nat.le_refl _, _, _, _, _, ρ, L, [], hv, Env.Le.refl _, fun _ _ => rfl, ?_⟩)
  · unfold unl
    exact Nat.le_trans List.countP_le_length (by simp)
  · have hno : ∀ i, lst (Array.replicate all.size false) i = false := by
      intro i
      unfold lst
      rw [Array.getD_eq_getD_getElem?]
      by_cases hi : i < all.size
      · simp [hi]
      · rw [Array.getElem?_eq_none (by simpa using hi)]; rfl
    refine ⟨hw.drew _, rfl, rfl, ha, List.nodup_nil, fun i => by simp, fun i => by simp, fun i hi => ?_, by simp, fun p o _ hp => ?_, fun W1 x W2 hW => ?_, fun W1 x W2 hW => ?_⟩
    · rw [hno] at hi; cases hi
    · rw [hno] at hp; cases hp
    · simp at hW
    · simp at hW
end
end Go.RX

namespace Go.RX

section
variable {P : Program} {C : Ctx} {Post : Value → List HP → Prop} {Fs : List HP} {w0 : World}

/-- The iterator is walked with the statement behind it. -/
theorem inline_rf (hT : checkT P C.T = true) {n N : Nat} (hnN : n < N) (IHc : ∀ m, m < N → SoundC P C Post Fs w0 m) {ro : Option Nat} {c : Code} {fd : Func} {f : Nat} (hf : P.funcs[f]? = some fd) (hb : fd.body = some c) {k : List KI} {st : St} {ρ ρb : Env} {L Lb : Nat → LC} {w : World}
    {as : List SV} {l r fn : Nat} {nt : NT} {fr : List (Nat × SV)} {ps : Array Tmp} {x y : Code} {a' : Act}
    (hv : VC P Post (run C n (.code c :: .rf l r fn nt fr ps x y fd :: k) (setNt st f ⟨fd.ntmps, []⟩ (enumFrom 0 as))) ρ L) (hsc : SV.scL st.cnt as = true) (hw : HW Fs w0 st ρ w)
    (hstk : Stk ρ (.rf l r fn nt fr ps x y fd :: k) none) (hstkk : Stk ρ k ro) (hfr : frSc st.cnt fr = true) (hds : nt.ds.all (MK.sc st.cnt) = true) (ha : HA fr nt ρ a') (hle : Env.Le ρb ρ) (hL : ∀ j, j < nl k → L j = Lb j) (hl : l < st.cnt.b) :
    CallsIn (FW none) 0 P f (SV.vals ρ as).toArray w (rangePost (FW ro) 0 P (ρ.bv.getD l 0) (QK P C Post Fs w0 N k ρb Lb) a') := by
  refine callsIn_of_wp_marks hf hb trivial ?_ rfl
  have hw' : HW Fs w0 (setNt st f ⟨fd.ntmps, []⟩ (enumFrom 0 as)) ρ w := ⟨hw.lens, enum_sc as 0 hsc, hw.sch, hw.sck, hw.kn, hw.own, hw.same, rfl⟩
  refine wpIn_mono (IHc n hnN none c _ _ ρ L _ w hv hw' (enter_HA as fd.ntmps) hstk) ?_
  have key : ∀ a1 w1, At P C Post Fs w0 n (.rf l r fn nt fr ps x y fd :: k) ρ L a1 w1 → LeavesInM (FW none) 0 P fd a1.tmps (rangePost (FW ro) 0 P (ρ.bv.getD l 0) (QK P C Post Fs w0 N k ρb Lb) a') a1.defers .returning w1 := by
    intro a1 w1 ⟨m, hm, st', ρ', L', h1, h2, h3, h4, h5⟩
    cases m with
    | zero => exact h5.elim
    | succ m =>
      simp only [run] at h5
      split at h5
      case h_2 => exact h5.elim
      rename_i st2 hlv
      have hst2 : st2.fr = st'.fr ∧ st2.nt = st'.nt ∧ st2.cnt = st'.cnt := by
        unfold leaveSt at hlv
        rw [Option.map_eq_some_iff] at hlv
        obtain ⟨hp', _, rfl⟩ := hlv
        exact ⟨rfl, rfl, rfl⟩
      split at h5
      case h_2 => exact h5.elim
      rename_i v i r' s j hv hrec
      split at h5
      · exact h5.elim
      · rename_i hbusy
        refine leaveSt_sound hlv h3 h4 fun w2 hw2 => ?_
        refine ⟨_, resAll_sound hT hw2 (nt := st'.nt) (by rw [hst2.1]; exact h4) hv, ?_⟩
        have hblk := rec_block hw2 hrec
        have hbv : ρ'.bv.getD l 0 = ρ.bv.getD l 0 := ((Env.Le.agree hw.lens h1).b l hl).symm
        rw [hbv] at hblk
        refine ⟨j.code, _, run_endLoop hblk (by cases s <;> first | (simp [RS.st]; done) | exact absurd rfl hbusy), ?_⟩
        have hw3 := rec_set hw2 hrec .exhausted j
        rw [hbv] at hw3
        have hcl := Lens.le hw.lens hw2.lens h1
        have hw4 : HW Fs w0 (setNt { st2 with hp := st2.hp.set i (.lrec l r' .exhausted j) } fn nt fr) ρ' _ := ⟨hw3.lens, frSc_mono hcl hfr, hw3.sch, hw3.sck, hw3.kn, hw3.own, hw3.same, dsc_mono hcl hds⟩
        have ha4 : HA fr nt ρ' a' := ha.more hfr hds (Env.Le.agree hw.lens h1)
        have hL' : ∀ q, q < nl k → L' q = Lb q := fun q hq => (h2 q hq).trans (hL q hq)
        cases j with
        | none =>
          exact ⟨k, rfl, m, by omega, _, ρ', L', hle.trans h1, hL', hw4, ha4, h5⟩
        | ret =>
          exact wpIn_mono (IHc m (by omega) ro .ret k _ ρ' L' a' _ h5 hw4 ha4 (hstkk.le h1)) fun e a w hq => hq.mono (by omega) (hle.trans h1) hL'
        | exit id =>
          exact wpIn_mono (IHc m (by omega) ro (.exit id) k _ ρ' L' a' _ h5 hw4 ha4 (hstkk.le h1)) fun e a w hq => hq.mono (by omega) (hle.trans h1) hL'
  intro e a1 w1 hq
  obtain ⟨k', hk, hat⟩ := hq
  cases e with
  | normal => cases hk; exact key a1 w1 hat
  | ret => cases hk; exact key a1 w1 hat
  | exit id => cases hk
  | goto l => cases hk
  | panic l => cases hk
  | outgrown => cases hk

theorem lens_rec1 {ρ : Env} {c : Cnt} (h : Lens ρ c) (l : Nat) (q : Loop) : Lens (ρ.ext ⟨[l], [], [], [], [], [], [q]⟩) { c with b := c.b + 1, r := c.r + 1 } :=
  ⟨by simp [Env.ext, h.b], by simp [Env.ext, h.v], by simp [Env.ext, h.i], by simp [Env.ext, h.a], by simp [Env.ext, h.bo], by simp [Env.ext, h.p], by simp [Env.ext, h.r]⟩
theorem lens_rec2 {ρ : Env} {c : Cnt} (h : Lens ρ c) (d l : Nat) (q : Loop) : Lens (ρ.ext ⟨[d, l], [], [], [], [], [], [q]⟩) { c with b := c.b + 2, r := c.r + 1 } :=
  ⟨by simp [Env.ext, h.b], by simp [Env.ext, h.v], by simp [Env.ext, h.i], by simp [Env.ext, h.a], by simp [Env.ext, h.bo], by simp [Env.ext, h.p], by simp [Env.ext, h.r]⟩

theorem alloc_same (w : World) (o : Obj) : Same w (w.alloc o) := ⟨rfl, rfl, rfl, by simp⟩

theorem soundR_step (hT : checkT P C.T = true) (hFT : FTOk P C.FT) {n : Nat} (IHc : ∀ m, m < n → SoundC P C Post Fs w0 m) : SoundR P C Post Fs w0 n := by
  intro ro g ps x y k st ρ L a w hv hw ha hstk
  cases n with
  | zero => exact hv.elim
  | succ n =>
    have hn : n < n + 1 := Nat.lt_succ_self n
    simp only [run] at hv
    split at hv
    case h_2 => exact hv.elim
    rename_i f caps hg
    have hev := opEval_spec ha.eval hg
    split at hv
    · exact hv.elim
    rename_i fd hfind
    have hmem := List.mem_of_find?_eq_some hfind
    have hx1 := List.find?_some hfind
    simp only [beq_iff_eq] at hx1
    obtain ⟨hf, hname⟩ := hFT _ hmem
    simp only at hf hname
    rw [hx1] at hf
    split at hv
    · exact hv.elim
    rename_i c hb
    split at hv
    case isFalse => exact hv.elim
    rename_i hcaps
    have hname' : ¬ fd.name = "runtime.NumGoroutine" := by simpa using hname
    have hres : ∀ (l : Nat) (w1 : World), (resolve a.eval (rangeCall g l) 0).run P w1 = .ok { target := .fn (.func f) (SV.vals ρ caps).toArray, args := #[.func (.yield l) #[] #[]] } w1 := by
      intro l w1
      simp only [resolve, hev, SV.val, Deferred.ofValue]
      simp [Act.eval]
    have hinv : ∀ (l : Nat) (w1 : World), (invoke (.fn (.func f) (SV.vals ρ caps).toArray) #[.func (.yield l) #[] #[]]).run P w1 = .ok (.enter f (#[.func (.yield l) #[] #[]] ++ (SV.vals ρ caps).toArray)) w1 := by
      intro l w1
      simp [invoke, callFunc, hf, hname', hb]
    have hro := hstk.ro
    split at hv
    · -- an outermost loop
      rename_i har
      rw [har] at hro
      simp only at hro
      subst hro
      refine wpIn_rangeFunc fun fn _ => ?_
      have e1 := run_enterLoop_outer (P := P) (w := w) fn a.tmps ps x y
      refine ⟨_, _, _, _, _, f, _, _, e1, hres _ _, fun _ _ => trivial, hinv _ _, fun h => (by cases h), ?_⟩
      simp only [VC] at hv
      have hv1 := hv w.heap.size (w.heap.size + 1) { state := .ready, pending := none, fn, tmps := a.tmps, params := ps, assign := x, body := y, defers := w.heap.size }
      generalize hq : ({ state := .ready, pending := none, fn, tmps := a.tmps, params := ps, assign := x, body := y, defers := w.heap.size } : Loop) = q at hv1 e1 ⊢
      have hle := Env.le_ext ρ ⟨[w.heap.size, w.heap.size + 1], [], [], [], [], [], [q]⟩
      have hag := Env.Le.agree hw.lens hle
      have hl := lens_rec2 hw.lens w.heap.size (w.heap.size + 1) q
      have hcl := Lens.le hw.lens hl hle
      have b1 : (ρ.ext ⟨[w.heap.size, w.heap.size + 1], [], [], [], [], [], [q]⟩).bv.getD st.cnt.b 0 = w.heap.size := by simp [Env.ext, ← hw.lens.b]
      have b2 : (ρ.ext ⟨[w.heap.size, w.heap.size + 1], [], [], [], [], [], [q]⟩).bv.getD (st.cnt.b + 1) 0 = w.heap.size + 1 := by simp [Env.ext, ← hw.lens.b]
      have b3 : (ρ.ext ⟨[w.heap.size, w.heap.size + 1], [], [], [], [], [], [q]⟩).lr.getD st.cnt.r loop0 = q := by simp [Env.ext, ← hw.lens.r]
      have hqr : ({ q with state := RS.ready.st, pending := Jump.none.code } : Loop) = q := by subst hq; rfl
      have hps : q.params = ps := by subst hq; rfl
      have hqa : q.assign = x := by subst hq; rfl
      have hqb : q.body = y := by subst hq; rfl
      have hqt : q.tmps = a.tmps := by subst hq; rfl
      clear hq
      generalize hρ1 : ρ.ext ⟨[w.heap.size, w.heap.size + 1], [], [], [], [], [], [q]⟩ = ρ1 at hv1 hle hag hl b1 b2 b3
      have hown1 : Owns ((st.hp.map (Ck.den ρ1) ++ [dfrHP w.heap.size]) ++ Fs) (w.alloc (.deferred (some []))) := by
        refine Owns.add (by rw [← Cks_sc hag hw.sch]; exact hw.own) _ (fun k => k = w.heap.size) (by simp) (fun k hk => heap_alloc_old w _ hk) ⟨fun _ => Iff.rfl, heap_alloc_new w _⟩ (fun k hk => by simp; omega)
      have hown2 : Owns (((st.hp.map (Ck.den ρ1) ++ [dfrHP w.heap.size]) ++ [recHP (w.heap.size + 1) q]) ++ Fs) ((w.alloc (.deferred (some []))).alloc (.loop q)) := by
        have hsz : (w.alloc (.deferred (some []))).heap.size = w.heap.size + 1 := by simp
        refine Owns.add hown1 _ (fun k => k = w.heap.size + 1) (by simp) (fun k hk => heap_alloc_old _ _ hk) ⟨fun _ => Iff.rfl, ?_⟩ (fun k hk => by simp; omega)
        have := heap_alloc_new (w.alloc (.deferred (some []))) (.loop q)
        rwa [hsz] at this
      have hw1 : HW Fs w0 { st with hp := st.hp ++ [.dfr st.cnt.b] ++ [.lrec (st.cnt.b + 1) st.cnt.r .ready .none], cnt := { st.cnt with b := st.cnt.b + 2, r := st.cnt.r + 1 } } ρ1 ((w.alloc (.deferred (some []))).alloc (.loop q)) := by
        refine ⟨hl, frSc_mono hcl hw.scf, ?_, BEs_mono hcl hw.sck, fun b hb => (BE.sc_prop hag (List.all_eq_true.1 hw.sck b hb)).1 (hw.kn b hb), ?_, (hw.same.trans (alloc_same _ _)).trans (alloc_same _ _), dsc_mono hcl hw.scd⟩
        · simp only [List.all_append, Bool.and_eq_true, List.all_cons, List.all_nil, Ck.sc, Nat.blt_eq]
          exact ⟨⟨Cks_mono hcl hw.sch, by omega, trivial⟩, ⟨by omega, by omega⟩, trivial⟩
        · simp only [List.map_append, List.map_cons, List.map_nil, Ck.den, b1, b2, b3, hqr]
          exact hown2
      have hfr1 : frSc { st.cnt with b := st.cnt.b + 2, r := st.cnt.r + 1 } st.fr = true := frSc_mono hcl hw.scf
      have hds1 : (MK.one st.cnt.b :: st.nt.ds).all (MK.sc { st.cnt with b := st.cnt.b + 2, r := st.cnt.r + 1 }) = true := by
        rw [List.all_cons, Bool.and_eq_true, MK.sc, Nat.blt_eq]
        exact ⟨by show st.cnt.b < st.cnt.b + 2; omega, dsc_mono hcl hw.scd⟩
      have ha1 := ha.more hw.scf hw.scd hag
      have hstk1 : Stk ρ1 (.rf (st.cnt.b + 1) st.cnt.r st.fn ⟨st.nt.n, .one st.cnt.b :: st.nt.ds⟩ st.fr ps x y fd :: k) none := by
        refine ⟨fun l r fn nt fr ps' x' y' fd' hm => ?_, rfl⟩
        rcases List.mem_cons.1 hm with hm | hm
        · cases hm
          refine ⟨ρ1, _, hl, Env.Le.refl _, hfr1, by simp, by rw [b3, hps], by rw [b3, hqa], by rw [b3, hqb], ?_⟩
          rw [b3, hqt]
          exact ⟨rfl, ha1.size, ha1.slots⟩
        · exact (hstk.le hle).rf l r fn nt fr ps' x' y' fd' hm
      have hcall := inline_rf (Lb := L) hT hn IHc hf hb (a' := { a with defers := [{ target := .collected w.heap.size, args := #[] }] ++ a.defers }) hv1
        (by simp only [SV.scL, SV.sc, Bool.and_eq_true, Nat.blt_eq]; exact ⟨by omega, SV.scL_mono hcl hcaps⟩) hw1 hstk1 (hstk.le hle) hfr1 hds1
        ⟨by rw [ha.defers, marks_sc hag hw.scd]; simp only [marks, List.flatMap_cons, MK.blocks, List.map_cons, b1, List.singleton_append], ha1.size, ha1.slots⟩ hle (fun _ _ => rfl) (by simp)
      rw [b2] at hcall
      have hargs : (SV.vals ρ1 (.yld (st.cnt.b + 1) :: caps)).toArray = #[.func (.yield (w.heap.size + 1)) #[] #[]] ++ (SV.vals ρ caps).toArray := by
        simp only [SV.vals, SV.val, b2, (SV.scL_val hag hcaps).1]
        simp
      rw [hargs] at hcall
      exact hcall
    · -- a loop within a round
      rename_i l0 har
      rw [har] at hro
      simp only at hro
      obtain ⟨ρ0, c0, k1, k2, k3, k4⟩ := hro
      rw [(Env.Le.agree k1 k2).b l0 k3] at k4
      split at hv
      case h_2 => exact hv.elim
      rename_i rc hrec
      obtain ⟨i0, r0, s0, j0⟩ := rc
      have hblk := rec_block hw hrec
      refine wpIn_rangeFunc fun fn _ => ?_
      have e1 := run_enterLoop_inner (P := P) (w := w) hblk fn a.tmps ps x y
      rw [show (FW ro).round = ro from rfl, k4]
      refine ⟨_, _, _, _, _, f, _, _, e1, hres _ _, fun _ _ => trivial, hinv _ _, fun h => (by cases h), ?_⟩
      simp only [VC] at hv
      have hv1 := hv w.heap.size { state := .ready, pending := none, fn, tmps := a.tmps, params := ps, assign := x, body := y, defers := ({ ρ.lr.getD r0 loop0 with state := s0.st, pending := j0.code } : Loop).defers }
      generalize hq : ({ state := .ready, pending := none, fn, tmps := a.tmps, params := ps, assign := x, body := y, defers := ({ ρ.lr.getD r0 loop0 with state := s0.st, pending := j0.code } : Loop).defers } : Loop) = q at hv1 e1 ⊢
      have hle := Env.le_ext ρ ⟨[w.heap.size], [], [], [], [], [], [q]⟩
      have hag := Env.Le.agree hw.lens hle
      have hl := lens_rec1 hw.lens w.heap.size q
      have hcl := Lens.le hw.lens hl hle
      have b2 : (ρ.ext ⟨[w.heap.size], [], [], [], [], [], [q]⟩).bv.getD st.cnt.b 0 = w.heap.size := by simp [Env.ext, ← hw.lens.b]
      have b3 : (ρ.ext ⟨[w.heap.size], [], [], [], [], [], [q]⟩).lr.getD st.cnt.r loop0 = q := by simp [Env.ext, ← hw.lens.r]
      have hqr : ({ q with state := RS.ready.st, pending := Jump.none.code } : Loop) = q := by subst hq; rfl
      have hps : q.params = ps := by subst hq; rfl
      have hqa : q.assign = x := by subst hq; rfl
      have hqb : q.body = y := by subst hq; rfl
      have hqt : q.tmps = a.tmps := by subst hq; rfl
      clear hq
      generalize hρ1 : ρ.ext ⟨[w.heap.size], [], [], [], [], [], [q]⟩ = ρ1 at hv1 hle hag hl b2 b3
      have hown2 : Owns ((st.hp.map (Ck.den ρ1) ++ [recHP w.heap.size q]) ++ Fs) (w.alloc (.loop q)) := by
        refine Owns.add (by rw [← Cks_sc hag hw.sch]; exact hw.own) _ (fun k => k = w.heap.size) (by simp) (fun k hk => heap_alloc_old w _ hk) ⟨fun _ => Iff.rfl, heap_alloc_new w _⟩ (fun k hk => by simp; omega)
      have hw1 : HW Fs w0 { st with hp := st.hp ++ [.lrec st.cnt.b st.cnt.r .ready .none], cnt := { st.cnt with b := st.cnt.b + 1, r := st.cnt.r + 1 } } ρ1 (w.alloc (.loop q)) := by
        refine ⟨hl, frSc_mono hcl hw.scf, ?_, BEs_mono hcl hw.sck, fun b hb => (BE.sc_prop hag (List.all_eq_true.1 hw.sck b hb)).1 (hw.kn b hb), ?_, hw.same.trans (alloc_same _ _), dsc_mono hcl hw.scd⟩
        · simp only [List.all_append, Bool.and_eq_true, List.all_cons, List.all_nil, Ck.sc, Nat.blt_eq]
          exact ⟨Cks_mono hcl hw.sch, ⟨by omega, by omega⟩, trivial⟩
        · simp only [List.map_append, List.map_cons, List.map_nil, Ck.den, b2, b3, hqr]
          exact hown2
      have hfr1 : frSc { st.cnt with b := st.cnt.b + 1, r := st.cnt.r + 1 } st.fr = true := frSc_mono hcl hw.scf
      have ha1 := ha.more hw.scf hw.scd hag
      have hstk1 : Stk ρ1 (.rf st.cnt.b st.cnt.r st.fn st.nt st.fr ps x y fd :: k) none := by
        refine ⟨fun l r fn nt fr ps' x' y' fd' hm => ?_, rfl⟩
        rcases List.mem_cons.1 hm with hm | hm
        · cases hm
          refine ⟨ρ1, _, hl, Env.Le.refl _, hfr1, by simp, by rw [b3, hps], by rw [b3, hqa], by rw [b3, hqb], ?_⟩
          rw [b3, hqt]
          exact ⟨rfl, ha1.size, ha1.slots⟩
        · exact (hstk.le hle).rf l r fn nt fr ps' x' y' fd' hm
      have hcall := inline_rf (Lb := L) (ro := ro) hT hn IHc hf hb (a' := { a with defers := [] ++ a.defers }) hv1
        (by simp only [SV.scL, SV.sc, Bool.and_eq_true, Nat.blt_eq]; exact ⟨by omega, SV.scL_mono hcl hcaps⟩) hw1 hstk1 (hstk.le hle) hfr1 (dsc_mono hcl hw.scd)
        ⟨ha1.defers, ha1.size, ha1.slots⟩ hle (fun _ _ => rfl) (by simp)
      rw [b2] at hcall
      have hargs : (SV.vals ρ1 (.yld st.cnt.b :: caps)).toArray = #[.func (.yield w.heap.size) #[] #[]] ++ (SV.vals ρ caps).toArray := by
        simp only [SV.vals, SV.val, b2, (SV.scL_val hag hcaps).1]
        simp
      rw [hargs] at hcall
      rw [k4] at hcall
      exact hcall
end
end Go.RX
