/- A reflective symbolic executor, part 25b: regions whose order is drawn, second half. -/
import Derived.Test.YtphemenngjkfbaaRxYa
namespace Go.RX

theorem look_filter_true {x : List (Nat × SV)} {f : Nat → Bool} {s : Nat} {v : SV} (h : look (x.filter fun y => f y.1) s = some v) : f s = true := by
  induction x with
  | nil => cases h
  | cons t r ih =>
    obtain ⟨q, u⟩ := t
    by_cases hf : f q = true
    · rw [List.filter_cons_of_pos (by exact hf)] at h
      unfold look at h
      split at h
      · rename_i hq
        rw [beq_iff_eq] at hq
        subst hq
        exact hf
      · exact ih h
    · rw [List.filter_cons_of_neg (by exact hf)] at h
      exact ih h

section
variable {P : Program} {C : Ctx} {Post : Value → List HP → Prop} {Fs : List HP} {w0 : World} {all : Array Oper} {pm : List Nat}

/-- What an operation that only looks will do, whenever it comes up. -/
def Will (P : Program) (all : Array Oper) (ro : Option Nat) (nt : NT) (i : Nat) (o : Oper) (v : Value) (base : Act) (hp : List Ck) (ρ : Env) (rd : List Nat) : Prop :=
  ∀ (a' : Act) (w' : World) (S : Nat → Nat → Prop) (K : Act → World → Prop) (Q : Exit → Act → World → Prop), (∀ s ∈ slotsOf all o, a'.tmps.getD s undef = base.tmps.getD s undef) → a'.defers = base.defers → nt.n ≤ a'.tmps.size →
    Reads hp ρ w' S rd → K (a'.put o.dst v) w' → wpOpIn (FW ro) 0 P all Q i K a' w'

theorem restrict_HA {fr : List (Nat × SV)} {nt : NT} {ρ : Env} {base a' : Act} {slots : List Nat} (h : HA fr nt ρ base) (hs : ∀ s ∈ slots, a'.tmps.getD s undef = base.tmps.getD s undef) (hd : a'.defers = base.defers) (hn : nt.n ≤ a'.tmps.size) :
    HA (restrict fr slots) nt ρ a' := by
  refine ⟨hd.trans h.defers, hn, fun s v hl => ?_⟩
  have h1 := look_of_filter (f := fun q => slots.contains q) hl
  have h2 := look_filter_true (f := fun q => slots.contains q) hl
  rw [hs s (by simpa using h2), h.slots s v h1]

theorem quiet_will (hT : checkT P C.T = true) {ro : Option Nat} {nt : NT} {i : Nat} {o : Oper} (hi : all[i]? = some o) {st : St} {ρ : Env} {base : Act} {g : Option BE} {res : Res}
    (hg : guardAt all (restrict st.fr (slotsOf all o)) st.known o = some g) (hr : stepQ C g { st with fr := restrict st.fr (slotsOf all o) } o = some res) (he : res.eff = .none)
    (hk : ∀ b ∈ st.known, b.prop ρ) (hl : Lens ρ st.cnt) (hvc : gden ρ g = true → ∀ b ∈ res.vcs, b.prop ρ) (ha : HA st.fr nt ρ base) :
    Will P all ro nt i o (if gden ρ g then res.val.val ρ else undef) base st.hp ρ res.rd := by
  intro a' w' S K Q hs hd hn hrd hK
  have ha' := restrict_HA ha hs hd hn
  have hwant := guardAt_sound ha' hk hg
  unfold wpOpIn
  simp only [hi]
  rw [hwant]
  cases hgd : gden ρ g with
  | false =>
    rw [if_neg (by simp)]
    rw [hgd, if_neg (by simp)] at hK
    exact ⟨fun _ _ => trivial, hK⟩
  | true =>
    rw [if_pos rfl]
    rw [hgd, if_pos rfl] at hK
    have hr : stepVal C g { st with fr := restrict st.fr (slotsOf all o) } o = some res := by
      rcases stepQ_spec hr with ⟨rfl, _⟩ | hr
      · cases hgd
      · exact hr
    obtain ⟨hsym, hrsc⟩ := stepVal_spec hr
    have hops : OpsOk ρ (look? g st.known (restrict st.fr (slotsOf all o))) a'.eval := ha'.evalKnown hk hgd
    have hD := symOp_sound (P := P) hT (Env.ok ρ) hops hsym hrd (hvc hgd) hl.b
    unfold Did at hD
    rw [he] at hD
    exact wpIn_of_run (not_defer hsym) (.inl hD) hK

abbrev lst (listed : Array Bool) (i : Nat) : Bool := listed.getD i false

/-- How a region stands, some of its operations done. -/
structure DI (P : Program) (Fs : List HP) (w0 : World) (all : Array Oper) (ro : Option Nat) (nt : NT) (a0 : Act) (listed : Array Bool) (a : Act) (w : World)
    (rest : List Nat) (done : Nat) (log : List (Nat × List Nat)) (st : St) (ρ : Env) (W : List Wr) : Prop where
  hw : HW Fs w0 st ρ w
  hnt : st.nt = nt
  act : a = puts a0 (W.filter fun x => lst listed x.1)
  ha : HA st.fr nt ρ (puts a0 W)
  nd : (W.map (·.1)).Nodup
  done : ∀ i, done.testBit i = true ↔ i ∈ W.map (·.1)
  rest : ∀ i, i ∈ rest ↔ i < all.size ∧ i ∉ W.map (·.1)
  sub : ∀ i, lst listed i = true → i ∈ W.map (·.1)
  lsz : listed.size = all.size
  clL : ∀ p o, all[p]? = some o → lst listed p = true → ∀ e ∈ o.after, Region.binds .any e = true → lst listed e.on = true
  clW : ∀ W1 x W2, W = W1 ++ x :: W2 → ∃ o, all[x.1]? = some o ∧ x.2.1 = o.dst ∧ ∀ e ∈ o.after, Region.binds .any e = true → e.on ∈ W1.map (·.1)
  pend : ∀ W1 x W2, W = W1 ++ x :: W2 → lst listed x.1 = false → ∃ o rd hp ρ', all[x.1]? = some o ∧ (x.1, rd) ∈ log ∧ Will P all ro nt x.1 o x.2.2 (puts a0 W1) hp ρ' rd ∧
    ∀ j ∈ rd, ∀ ck, hp[j]? = some ck → ∃ ck', st.hp[j]? = some ck' ∧ ck'.den ρ = ck.den ρ'

section agree
variable {ro : Option Nat} {nt : NT} {a0 : Act} {listed : Array Bool} {a : Act} {w : World} {rest : List Nat} {done : Nat} {log : List (Nat × List Nat)} {st : St} {ρ : Env} {W : List Wr}

theorem DI.clPre (h : DI P Fs w0 all ro nt a0 listed a w rest done log st ρ W) {A B : List Wr} (hW : W = A ++ B) :
    ∀ p o, all[p]? = some o → p ∈ A.map (·.1) → ∀ e ∈ o.after, Region.binds .any e = true → e.on ∈ A.map (·.1) := by
  intro p o ho hp e he hb
  obtain ⟨y, hy, rfl⟩ := List.mem_map.1 hp
  obtain ⟨A1, A2, rfl⟩ := List.append_of_mem hy
  obtain ⟨o', ho', _, hpre⟩ := h.clW A1 y (A2 ++ B) (by rw [hW]; simp)
  rw [ho] at ho'
  cases ho'
  have := hpre e he hb
  rw [List.map_append]
  exact List.mem_append_left _ this

/-- Who has written a slot that an operation is about. -/
theorem DI.before (h : DI P Fs w0 all ro nt a0 listed a w rest done log st ρ W) (hord : orderedB all pm = true) (hpm : pmOk all pm = true) {i : Nat} {o : Oper} (hi : all[i]? = some o)
    (hready : ∀ e ∈ o.after, Region.binds .any e = true → lst listed e.on = true) {W1 tail : List Wr} (hW : W = W1 ++ tail) (hni : i ∉ W1.map (·.1)) {s : Nat} (hs : s ∈ slotsOf all o ∨ o.dst = some s) :
    ∀ y ∈ W1, y.2.1 = some s → lst listed y.1 = true := by
  intro y hy hys
  obtain ⟨A, B, rfl⟩ := List.append_of_mem hy
  obtain ⟨oy, hoy, hdy, hpre⟩ := h.clW A y (B ++ tail) (by rw [hW]; simp)
  have hne : y.1 ≠ i := fun e => hni (by rw [← e]; simp)
  have hyl : y.1 < all.size := (Array.getElem?_eq_some_iff.1 hoy).1
  have hil : i < all.size := (Array.getElem?_eq_some_iff.1 hi).1
  rcases orderedB_spec hord hoy hi (hdy ▸ hys) hs hne with hb | hb
  · exact ahead_pm hpm (fun q => lst listed q = true) h.clL hi hready hyl hb
  · have := ahead_pm hpm (fun q => q ∈ A.map (·.1)) (h.clPre (A := A) (B := y :: (B ++ tail)) (by rw [hW]; simp)) hoy hpre hil hb
    exact absurd (by rw [List.map_append]; exact List.mem_append_left _ this) hni

theorem DI.behind (h : DI P Fs w0 all ro nt a0 listed a w rest done log st ρ W) (hord : orderedB all pm = true) (hpm : pmOk all pm = true) {W1 W2 : List Wr} {x : Wr} {o : Oper} (hi : all[x.1]? = some o)
    (hnl : lst listed x.1 = false) (hW : W = W1 ++ x :: W2) {s : Nat} (hs : s ∈ slotsOf all o ∨ o.dst = some s) :
    ∀ y ∈ W2, y.2.1 = some s → lst listed y.1 = false := by
  intro y hy hys
  obtain ⟨A, B, rfl⟩ := List.append_of_mem hy
  obtain ⟨oy, hoy, hdy, hpre⟩ := h.clW (W1 ++ x :: A) y B (by rw [hW]; simp)
  obtain ⟨ox, hox, _, hprex⟩ := h.clW W1 x (A ++ y :: B) hW
  rw [hi] at hox
  cases hox
  have hnd := h.nd
  rw [hW] at hnd
  simp only [List.map_append, List.map_cons] at hnd
  rw [List.nodup_append] at hnd
  obtain ⟨_, hnd2, hnd3⟩ := hnd
  have hyl : y.1 < all.size := (Array.getElem?_eq_some_iff.1 hoy).1
  have hil : x.1 < all.size := (Array.getElem?_eq_some_iff.1 hi).1
  have hne : y.1 ≠ x.1 := fun e => by
    have := (List.nodup_cons.1 hnd2).1
    exact this (by rw [← e]; simp)
  rcases orderedB_spec hord hoy hi (hdy ▸ hys) hs hne with hb | hb
  · have := ahead_pm hpm (fun q => q ∈ W1.map (·.1)) (h.clPre (A := W1) (B := x :: (A ++ y :: B)) hW) hi hprex hyl hb
    exact absurd rfl (hnd3 _ this _ (by simp))
  · cases hl : lst listed y.1 with
    | false => rfl
    | true =>
      have := closed_pm hpm (fun q => lst listed q = true) h.clL y.1 oy hoy hl x.1 hil hb
      rw [hnl] at this
      cases this

theorem agree_slots {W1 tail : List Wr} {s : Nat} (h1 : ∀ y ∈ W1, y.2.1 = some s → lst listed y.1 = true) (h2 : ∀ y ∈ tail, y.2.1 = some s → lst listed y.1 = false) :
    (puts a0 ((W1 ++ tail).filter fun x => lst listed x.1)).tmps.getD s undef = (puts a0 W1).tmps.getD s undef := by
  rw [puts_slot s _ a0 a0 rfl rfl, puts_slot s W1 a0 a0 rfl rfl]
  have e2 : (tail.filter fun x => lst listed x.1).filter (fun x => x.2.1 == some s) = [] := by
    rw [List.filter_filter, List.filter_eq_nil_iff]
    intro y hy hc
    simp only [Bool.and_eq_true, beq_iff_eq] at hc
    rw [h2 y hy hc.1] at hc
    cases hc.2
  have e1 : (W1.filter fun x => lst listed x.1).filter (fun x => x.2.1 == some s) = W1.filter (fun x => x.2.1 == some s) := by
    rw [List.filter_filter]
    refine List.filter_congr fun y hy => ?_
    by_cases hys : y.2.1 = some s
    · rw [h1 y hy hys, Bool.and_true]
    · have : (y.2.1 == some s) = false := by simpa using hys
      rw [this, Bool.false_and]
  rw [List.filter_append, List.filter_append, e1, e2, List.append_nil]
end agree
end
end Go.RX
