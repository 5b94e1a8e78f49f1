/- A reflective symbolic executor, part 22: nil slices, steps of the memory. -/
import Derived.Test.YtphemenngjkfbaaRxU
namespace Go.RX

section
variable {P : Program} {C : Ctx} {Post : Value → List HP → Prop} {Fs : List HP} {w0 : World} {ρ : Env} {a : Act} {w : World}

theorem Env.le_addB (ρ : Env) (b : Nat) : Env.Le ρ (ρ.addB b) := by rw [Env.addB_eq]; exact Env.le_ext _ _
theorem Env.le_addV (ρ : Env) (v : V1) : Env.Le ρ (ρ.addV v) := by rw [Env.addV_eq]; exact Env.le_ext _ _
theorem Lens.addB {c : Cnt} (h : Lens ρ c) (b : Nat) : Lens (ρ.addB b) { c with b := c.b + 1 } :=
  ⟨by simp [Env.addB, h.b], h.v, h.i, h.a, h.bo, h.p, h.r⟩
theorem Lens.addV {c : Cnt} (h : Lens ρ c) (v : V1) : Lens (ρ.addV v) { c with v := c.v + 1 } :=
  ⟨h.b, by simp [Env.addV, h.v], h.i, h.a, h.bo, h.p, h.r⟩
theorem getD_addV (ρ : Env) (v : V1) {n : Nat} (h : ρ.vv.length = n) : (ρ.addV v).vv.getD n V1.nil = v := by
  subst h; simp [Env.addV]
theorem getD_addB' (ρ : Env) (b : Nat) {n : Nat} (h : ρ.bv.length = n) : (ρ.addB b).bv.getD n 0 = b := by
  subst h; simp [Env.addB]

theorem cellsL_set {ρ ρ' : Env} : ∀ {cs : List SV} {j : Nat} {x y : SV}, cs[j]? = some x → SV.cells ρ x = SV.cells ρ' y → SV.cellsL ρ cs = SV.cellsL ρ' cs → SV.cellsL ρ' (cs.set j y) = SV.cellsL ρ' cs → True
  | _, _, _, _, _, _, _, _ => trivial
theorem cellsL_put {ρ : Env} : ∀ {cs : List SV} {j : Nat} {x y : SV}, cs[j]? = some x → SV.cells ρ y = SV.cells ρ x → SV.cellsL ρ (cs.set j y) = SV.cellsL ρ cs
  | [], j, x, y, h, _ => by simp at h
  | c :: cs, 0, x, y, h, e => by
    simp only [List.getElem?_cons_zero, Option.some.injEq] at h
    subst h
    simp only [List.set_cons_zero, SV.cellsL, e]
  | c :: cs, j + 1, x, y, h, e => by
    simp only [List.getElem?_cons_succ] at h
    simp only [List.set_cons_succ, SV.cellsL, cellsL_put h e]
theorem scL_set {c : Cnt} : ∀ {cs : List SV} {j : Nat} {y : SV}, SV.scL c cs = true → y.sc c = true → SV.scL c (cs.set j y) = true
  | [], j, y, h, _ => by simpa using h
  | x :: cs, 0, y, h, e => by
    simp only [SV.scL, Bool.and_eq_true] at h
    simp only [List.set_cons_zero, SV.scL, Bool.and_eq_true]
    exact ⟨e, h.2⟩
  | x :: cs, j + 1, y, h, e => by
    simp only [SV.scL, Bool.and_eq_true] at h
    simp only [List.set_cons_succ, SV.scL, Bool.and_eq_true]
    exact ⟨h.1, scL_set h.2 e⟩

/-- The memory, names added. -/
theorem HW.own_more {st : St} {ρ' : Env} (h : HW Fs w0 st ρ w) (hle : Env.Le ρ ρ') : Owns (st.hp.map (Ck.den ρ') ++ Fs) w := by
  rw [← Cks_sc (Env.Le.agree h.lens hle) h.sch]; exact h.own

theorem nilGo_sound {T : List TI} {st st' : St} {t : Nat} (hg : nilGo T st t = some st') (h : HW Fs w0 st ρ w) :
    HW Fs w0 st' (ρ.addV ⟨.slice none 0 0, rfl⟩) w ∧ st'.fr = st.fr ∧ st'.nt = st.nt ∧ st'.fn = st.fn ∧ st'.cnt = { st.cnt with v := st.cnt.v + 1 } ∧ ∃ ck, st'.hp = st.hp ++ [ck] := by
  unfold nilGo at hg
  split at hg
  · rename_i ti cols hti hcols
    split at hg
    · rename_i hsc
      cases hg
      have hle := Env.le_addV ρ ⟨.slice none 0 0, rfl⟩
      have hcl : st.cnt.le { st.cnt with v := st.cnt.v + 1 } := by constructor <;> simp
      refine ⟨⟨h.lens.addV _, frSc_mono hcl h.scf, ?_, BEs_mono hcl h.sck, fun b hb => ?_, ?_, h.same, dsc_mono hcl h.scd⟩, rfl, rfl, rfl, rfl, _, rfl⟩
      · rw [List.all_append, Bool.and_eq_true]
        refine ⟨Cks_mono hcl h.sch, ?_⟩
        simp only [List.all_cons, List.all_nil, Ck.sc, E.sc, Bool.and_true, Bool.and_eq_true, Nat.blt_eq]
        exact ⟨Nat.lt_succ_self _, cols_mono hcl hsc⟩
      · exact (BE.sc_prop (Env.Le.agree h.lens hle) (List.all_eq_true.1 h.sck b hb)).1 (h.kn b hb)
      · rw [List.map_append]
        refine Owns.add (h.own_more hle) _ (fun _ => False) (Nat.le_refl _) (fun _ _ => rfl) ?_ (fun _ hk => hk.elim)
        simp only [Ck.den, getD_addV ρ _ h.lens.v]
        refine ⟨?_, fun k => by simp [Value.ownBlock]⟩
        simp only [if_true]
        exact World.ownsRow_nil w 0 t ti.size
    · cases hg
  · cases hg

theorem nilAt_sound {T : List TI} {st st' : St} {x : NilAt} (hg : nilAt T st x = some st') (h : HW Fs w0 st ρ w) (ha : HA st.fr st.nt ρ a) :
    HW Fs w0 st' (ρ.addV ⟨.slice none 0 0, rfl⟩) w ∧ HA st'.fr st'.nt (ρ.addV ⟨.slice none 0 0, rfl⟩) a ∧ st'.nt = st.nt ∧ st'.fn = st.fn := by
  have hle := Env.le_addV ρ ⟨.slice none 0 0, rfl⟩
  have hag := Env.Le.agree h.lens hle
  have ha' := ha.more h.scf h.scd hag
  cases x with
  | slot s t =>
    simp only [nilAt] at hg
    split at hg
    · rename_i hl
      rw [Option.map_eq_some_iff] at hg
      obtain ⟨s1, hs1, rfl⟩ := hg
      obtain ⟨h1, e1, e2, e3, e4, ck, e5⟩ := nilGo_sound hs1 h
      have hv : (SV.vv st.cnt.v).sc s1.cnt = true := by rw [e4]; simp [SV.sc]
      refine ⟨h1.put hv, ⟨by rw [(put_rest _ _ _).2.2.2.1, e2]; exact ha'.defers, by rw [(put_rest _ _ _).2.2.2.1, e2]; exact ha.size, fun q v hq => ?_⟩, by rw [(put_rest _ _ _).2.2.2.1, e2], by rw [(put_rest _ _ _).2.2.2.2, e3]⟩
      simp only [St.put] at hq
      unfold look at hq
      split at hq
      · rename_i hqs
        rw [beq_iff_eq] at hqs
        subst hqs
        cases hq
        rw [ha.slots _ _ hl]
        simp only [SV.val, getD_addV ρ _ h.lens.v]
      · rename_i hqs
        rw [look_filter s _ q (fun e => hqs (by simp [e])), e1] at hq
        exact ha'.slots q v hq
    · cases hg
  | cell i j t =>
    simp only [nilAt] at hg
    split at hg
    · rename_i b wr cs hi
      split at hg
      · rename_i hj
        rw [Option.map_eq_some_iff] at hg
        obtain ⟨s1, hs1, rfl⟩ := hg
        obtain ⟨h1, e1, e2, e3, e4, ck, e5⟩ := nilGo_sound hs1 h
        have hv : (SV.vv st.cnt.v).sc s1.cnt = true := by rw [e4]; simp [SV.sc]
        have hi' : s1.hp[i]? = some (.row b wr cs) := by
          rw [e5, List.getElem?_append_left (List.getElem?_eq_some_iff.1 hi).1]; exact hi
        have hsc1 := List.all_eq_true.1 h1.sch _ (List.mem_of_getElem? hi')
        simp only [Ck.sc, Bool.and_eq_true] at hsc1
        have hden : (Ck.row b wr (cs.set j (.vv st.cnt.v))).den (ρ.addV ⟨.slice none 0 0, rfl⟩) = (Ck.row b wr cs).den (ρ.addV ⟨.slice none 0 0, rfl⟩) := by
          simp only [Ck.den]
          rw [cellsL_put hj]
          simp only [SV.cells, getD_addV ρ _ h.lens.v]
        have hmap : (s1.hp.set i (.row b wr (cs.set j (.vv st.cnt.v)))).map (Ck.den (ρ.addV ⟨.slice none 0 0, rfl⟩)) = s1.hp.map (Ck.den (ρ.addV ⟨.slice none 0 0, rfl⟩)) := by
          rw [List.map_set, hden]
          apply List.ext_getElem?
          intro q
          rw [List.getElem?_set]
          split
          · rename_i hq
            subst hq
            split
            · rw [List.getElem?_map, hi']; rfl
            · rename_i hlt
              rw [List.getElem?_eq_none (by omega)]
          · rfl
        refine ⟨⟨h1.lens, h1.scf, ?_, h1.sck, h1.kn, by rw [hmap]; exact h1.own, h1.same, h1.scd⟩, ⟨by rw [e2]; exact ha'.defers, by rw [e2]; exact ha.size, by rw [e1]; exact ha'.slots⟩, e2, e3⟩
        refine List.all_eq_true.2 fun q hq => ?_
        rcases List.mem_or_eq_of_mem_set hq with hq | rfl
        · exact List.all_eq_true.1 h1.sch q hq
        · simp only [Ck.sc, Bool.and_eq_true]
          exact ⟨hsc1.1, scL_set hsc1.2 hv⟩
      · cases hg
    · cases hg

theorem nilAll_sound {T : List TI} {L : Nat → LC} {f : F} : ∀ {xs : List NilAt} {st st' : St} {n : Nat} {ρ : Env}, nilAll T st xs = some (st', n) → HW Fs w0 st ρ w → HA st.fr st.nt ρ a → VC P Post (nilWrap n f) ρ L →
    ∃ ρ', Env.Le ρ ρ' ∧ HW Fs w0 st' ρ' w ∧ HA st'.fr st'.nt ρ' a ∧ st'.nt = st.nt ∧ st'.fn = st.fn ∧ VC P Post f ρ' L
  | [], st, st', n, ρ, h, hw, ha, hv => by
    simp only [nilAll, Option.some.injEq, Prod.mk.injEq] at h
    obtain ⟨rfl, rfl⟩ := h
    exact ⟨ρ, Env.Le.refl _, hw, ha, rfl, rfl, hv⟩
  | x :: xs, st, st', n, ρ, h, hw, ha, hv => by
    unfold nilAll at h
    split at h
    · rename_i s1 h1
      split at h
      · rename_i s2 k h2
        simp only [Option.some.injEq, Prod.mk.injEq] at h
        obtain ⟨rfl, rfl⟩ := h
        obtain ⟨g1, g2, g3, g4⟩ := nilAt_sound h1 hw ha
        simp only [nilWrap, VC] at hv
        obtain ⟨ρ', q1, q2, q3, q4, q5, q6⟩ := nilAll_sound h2 g1 g2 hv
        exact ⟨ρ', (Env.le_addV _ _).trans q1, q2, q3, q4.trans g3, q5.trans g4, q6⟩
      · cases h
    · cases h
end
end Go.RX
