/- The law hailerlaw30.SpecOne holds: whatever devices there are, and whatever events are tried, the call returns true and writes nothing that was there. Conditions: none. -/
import Derived.Test.YtphemenngjkfbaaSpD
import Derived.Test.YtphemenngjkfbaaRows
import Derived.WalkKit
import Derived.ProofKit
import Derived.OpenShut
import Derived.ChangeOld
import Derived.Below

namespace Go.RX.So
open Go.RX Go.Proofs

theorem kcI_congr {f g : Nat → Int} (h : ∀ j, j < 16 → f j = g j) : kcI f = kcI g := by
  unfold kcI
  rw [List.map_congr_left fun j hj => h j (List.mem_range.1 hj)]
def recId (d : Dv) (j : Nat) : Nat → Int := shiftF d.r0 (j * 16)
theorem put1_old {f : Nat → Int} {n x : Int} {j : Nat} (h0 : 0 ≤ n) (hj : (j : Int) < n) : put1 f n x j = f j := by
  unfold put1 splF; rw [if_neg (by omega)]
theorem put1_new {f : Nat → Int} {n x : Int} {j : Nat} (h0 : 0 ≤ n) (hj : (j : Int) = n) : put1 f n x j = x := by
  unfold put1 splF; rw [if_pos (by omega), show j - n.toNat = 0 by omega]; rfl
theorem recId_old {d : Dv} {e : Ev} {j : Nat} (h0 : 0 ≤ d.n) (hj : (j : Int) < d.n) : kcI (recId (d.ends e) j) = kcI (recId d j) := by
  refine kcI_congr fun t ht => ?_
  unfold recId shiftF Dv.ends splF
  simp only
  rw [if_neg (by omega)]
theorem recId_new {d : Dv} {e : Ev} {j : Nat} (h0 : 0 ≤ d.n) (hj : (j : Int) = d.n) : kcI (recId (d.ends e) j) = kcI d.id := by
  refine kcI_congr fun t ht => ?_
  unfold recId shiftF Dv.ends splF
  simp only
  rw [if_pos (by omega), if_pos (by omega)]
  congr 1
  omega

structure DGood (last N : Int) (cs : List CE) (x : DE) : Prop where
  n0 : 0 ≤ x.d.n
  n1 : x.d.n ≤ N
  began : x.d.began ≤ last
  answered : x.d.answered = 0 ∨ (x.d.began ≤ x.d.answered ∧ x.d.answered ≤ last)
  recs : ∀ j : Nat, (j : Int) < x.d.n → x.d.r4 j ≤ x.d.r6 j ∧ (x.d.r5 j = 0 ∨ (x.d.r4 j ≤ x.d.r5 j ∧ x.d.r5 j ≤ x.d.r6 j))
  uniq : ∀ i j : Nat, (i : Int) < x.d.n → (j : Int) < x.d.n → i ≠ j → kcI (recId x.d i) ≠ kcI (recId x.d j)
  inhad : ∀ j : Nat, (j : Int) < x.d.n → x.d.had (kcI (recId x.d j)) ≠ 0
  cur : x.d.st ≠ 0 → x.d.had (kcI x.d.id) ≠ 0 ∧ ∀ j : Nat, (j : Int) < x.d.n → kcI (recId x.d j) ≠ kcI x.d.id
  caller : x.d.st ≠ 0 → x.d.out ≠ 0 → ∀ y ∈ cs, y.k = kcI x.d.id → x.k = kcD y.c.ca y.c.cd
  had : ∀ k, x.d.had k ≠ 0 → ∃ y ∈ cs, y.k = k
structure Good (σ : Sys) (N : Int) : Prop where
  wf : σ.Wf
  ds : ∀ x ∈ σ.ds, DGood σ.s.last N σ.cs x
  cn : ∀ y ∈ σ.cs, 0 ≤ y.c.n ∧ y.c.n ≤ N

/-- What a step leaves of a call. -/
structure Later (e : Ev) (y y' : CE) : Prop where
  k : y'.k = y.k
  caller : y'.c.ca = y.c.ca ∧ y'.c.cd = y.c.cd
  took : y.c.took = true → y'.c.took = true ∧ y'.c.aa = y.c.aa ∧ y'.c.ad = y.c.ad
  known : y.c.known = true → y'.c.known = true ∧ ∀ j, j < 32 → y'.c.print j = y.c.print j
theorem Later.refl (e : Ev) (y : CE) : Later e y y := ⟨rfl, ⟨rfl, rfl⟩, fun h => ⟨h, rfl, rfl⟩, fun h => ⟨h, fun _ _ => rfl⟩⟩

theorem step1_cases {e : Ev} {last : Int} {d d' : Dv} {c c' : Cl} (h : step1 e last d c = some (d', c')) :
    last ≤ e.at_ ∧ e.kind ≠ 1 ∧
    ((e.kind = 2 ∧ d.st = 0 ∧ d.had (kcI e.id) = 0 ∧ d' = d.begins e 2 ∧ c' = c) ∨
     (d.st ≠ 0 ∧ (∀ j, j < 16 → d.id j = e.id j) ∧
      ((e.kind ≠ 4 ∧ d' = d.connects e ∧ ¬ c.took = true ∧ c' = c.takes e) ∨ (e.kind ≠ 4 ∧ d' = d.connects e ∧ c' = c.joins e) ∨ (e.kind = 4 ∧ d' = d.active e ∧ c' = c.active e ∧ activeOk e d c) ∨ (e.kind ≠ 4 ∧ d' = d.ends e ∧ c' = c.ends e d)))) := by
  unfold step1 at h
  split at h
  · cases h
  rename_i h1
  split at h
  · cases h
  split at h
  · cases h
  rename_i h3
  refine ⟨by omega, h3, ?_⟩
  split at h
  · rename_i h4
    split at h
    · cases h
    · rename_i h5
      simp only [Option.some.injEq, Prod.mk.injEq] at h
      refine .inl ⟨h4, Classical.byContradiction fun q => h5 (.inl (.inl (.inl q))), Classical.byContradiction fun q => h5 (.inl (.inl (.inr q))), h.1.symm, h.2.symm⟩
  · split at h
    · cases h
    rename_i h4 h5
    refine .inr ⟨fun q => h5 (.inl (.inl q)), Classical.byContradiction fun q => h5 (.inl (.inr q)), ?_⟩
    split at h
    · rename_i h6
      split at h
      · rename_i h7
        simp only [Option.some.injEq, Prod.mk.injEq] at h
        exact .inl ⟨by omega, h.1.symm, h7.1.2, h.2.symm⟩
      · split at h
        · simp only [Option.some.injEq, Prod.mk.injEq] at h
          exact .inr (.inl ⟨by omega, h.1.symm, h.2.symm⟩)
        · cases h
    · split at h
      · rename_i h6
        split at h
        · rename_i h7
          simp only [Option.some.injEq, Prod.mk.injEq] at h
          exact .inr (.inr (.inl ⟨h6, h.1.symm, h.2.symm, h7⟩))
        · cases h
      · split at h
        · rename_i h6
          split at h
          · simp only [Option.some.injEq, Prod.mk.injEq] at h
            exact .inr (.inr (.inr ⟨by omega, h.1.symm, h.2.symm⟩))
          · cases h
        · cases h
theorem step0_cases {e : Ev} {dv : Nat → Int} {last : Int} {d d' : Dv} (h : step0 e dv last d = some d') : last ≤ e.at_ ∧ e.kind = 1 ∧ d.st = 0 ∧ d' = d.begins e 1 := by
  unfold step0 at h
  split at h
  · cases h
  split at h
  · cases h
  split at h
  · rename_i h1 _ h3
    simp only [Option.some.injEq] at h
    exact ⟨by omega, h3.1, h3.2.1, h.symm⟩
  · cases h

theorem DGood.later {last last' N N' : Int} {cs cs' : List CE} {x : DE} (h : DGood last N cs x) (hl : last ≤ last') (hN : N ≤ N') (hcs : ∀ y' ∈ cs', (∃ y ∈ cs, y'.k = y.k ∧ y'.c.ca = y.c.ca ∧ y'.c.cd = y.c.cd) ∨ (∀ y ∈ cs, y.k ≠ y'.k)) (hk : ∀ y ∈ cs, ∃ y' ∈ cs', y'.k = y.k) :
    DGood last' N' cs' x := by
  refine ⟨h.n0, by have := h.n1; omega, by have := h.began; omega, ?_, h.recs, h.uniq, h.inhad, h.cur, ?_, ?_⟩
  · rcases h.answered with q | q
    · exact .inl q
    · exact .inr ⟨q.1, by omega⟩
  · intro h1 h2 y' hy' hyk
    rcases hcs y' hy' with ⟨y, hy, e1, e2, e3⟩ | hno
    · rw [e2, e3]; exact h.caller h1 h2 y hy (e1.symm.trans hyk)
    · obtain ⟨y, hy, e1⟩ := h.had _ (h.cur h1).1
      exact absurd (e1.trans hyk.symm) (hno y hy)
  · intro k hk'
    obtain ⟨y, hy, e1⟩ := h.had k hk'
    obtain ⟨y', hy', e2⟩ := hk y hy
    exact ⟨y', hy', e2.trans e1⟩
end Go.RX.So

namespace Go.RX.So
open Go.RX Go.Proofs

theorem mem_mid {α : Type} {l1 l2 : List α} {x z : α} : z ∈ l1 ++ x :: l2 ↔ z ∈ l1 ∨ z = x ∨ z ∈ l2 := by simp
theorem nd_mid {l1 l2 : List DE} {x x' : DE} (hk : x'.k = x.k) (h : (l1 ++ x :: l2).Pairwise fun a b => a.k ≠ b.k) : (l1 ++ x' :: l2).Pairwise fun a b => a.k ≠ b.k := by
  have h1 := (List.pairwise_map (f := DE.k) (R := fun a b => a ≠ b)).2 h
  refine (List.pairwise_map (f := DE.k) (R := fun a b => a ≠ b)).1 ?_
  simpa [hk] using h1
theorem nc_mid {l1 l2 : List CE} {x x' : CE} (hk : x'.k = x.k) (h : (l1 ++ x :: l2).Pairwise fun a b => a.k ≠ b.k) : (l1 ++ x' :: l2).Pairwise fun a b => a.k ≠ b.k := by
  have h1 := (List.pairwise_map (f := CE.k) (R := fun a b => a ≠ b)).2 h
  refine (List.pairwise_map (f := CE.k) (R := fun a b => a ≠ b)).1 ?_
  simpa [hk] using h1
theorem nc_at {l1 l2 : List CE} {x : CE} (h : (l1 ++ x :: l2).Pairwise fun a b => a.k ≠ b.k) : ∀ z ∈ l1 ++ x :: l2, z.k = x.k → z = x := by
  intro z hz hk
  rw [List.pairwise_append] at h
  rcases mem_mid.1 hz with q | q | q
  · exact absurd hk (h.2.2 z q x List.mem_cons_self)
  · exact q
  · exact absurd hk.symm ((List.pairwise_cons.1 h.2.1).1 z q)

theorem Later.of_step {e : Ev} {last : Int} {d d' : Dv} {y : CE} {c' : Cl} {w : V1} (h : step1 e last d y.c = some (d', c')) : Later e y { y with v := w, c := c' } := by
  obtain ⟨_, _, (⟨_, _, _, _, rfl⟩ | ⟨_, _, (⟨_, _, h1, rfl⟩ | ⟨_, _, rfl⟩ | ⟨_, _, rfl, h1⟩ | ⟨_, _, rfl⟩)⟩)⟩ := step1_cases h
  · exact ⟨rfl, ⟨rfl, rfl⟩, fun h => ⟨h, rfl, rfl⟩, fun h => ⟨h, fun _ _ => rfl⟩⟩
  · exact ⟨rfl, ⟨rfl, rfl⟩, fun h => absurd h h1, fun h => ⟨h, fun _ _ => rfl⟩⟩
  · exact ⟨rfl, ⟨rfl, rfl⟩, fun h => ⟨h, rfl, rfl⟩, fun h => ⟨h, fun _ _ => rfl⟩⟩
  · refine ⟨rfl, ⟨rfl, rfl⟩, fun h => ⟨h, rfl, rfl⟩, fun hk => ⟨rfl, fun j hj => ?_⟩⟩
    have : ¬ (y.c.known = true ∧ ¬ ∀ j, j < 32 → y.c.print j = e.key j) := by
      unfold activeOk at h1
      split at h1
      · exact fun q => h1 (.inr q)
      · exact fun q => h1 (.inr q)
    exact (Classical.byContradiction fun q => this ⟨hk, fun r => q (r j hj)⟩ : y.c.print j = e.key j).symm
  · exact ⟨rfl, ⟨rfl, rfl⟩, fun h => ⟨h, rfl, rfl⟩, fun h => ⟨h, fun _ _ => rfl⟩⟩

theorem begins_good {last N : Int} {cs : List CE} {x : DE} {e : Ev} {st : Int} {w : V1} (h : DGood last N cs x) (hl : last ≤ e.at_) (hnot : x.d.had (kcI e.id) = 0) (hc : ∃ y ∈ cs, y.k = kcI e.id) (hcall : st = 1 → ∀ y ∈ cs, y.k = kcI e.id → x.k = kcD y.c.ca y.c.cd) :
    DGood e.at_ (N + 1) cs { x with v := w, d := x.d.begins e st } := by
  have hn := h.n1
  refine ⟨h.n0, by show x.d.n ≤ _; omega, Int.le_refl _, .inl rfl, h.recs, h.uniq, ?_, ?_, ?_, ?_⟩
  · intro j hj
    show updF x.d.had (kcI e.id) 1 (kcI (recId x.d j)) ≠ 0
    unfold updF
    split
    · decide
    · exact h.inhad j hj
  · intro _
    refine ⟨?_, fun j hj he => ?_⟩
    · show updF x.d.had (kcI e.id) 1 (kcI e.id) ≠ 0
      simp [updF]
    · have := h.inhad j hj
      rw [show kcI (recId x.d j) = kcI e.id from he] at this
      exact this hnot
  · intro _ ho y hy hyk
    have ho' : (if st = 1 then (1 : Int) else 0) ≠ 0 := ho
    by_cases hs : st = 1
    · exact hcall hs y hy hyk
    · rw [if_neg hs] at ho'; exact absurd rfl ho'
  · intro k hk
    have hk' : updF x.d.had (kcI e.id) 1 k ≠ 0 := hk
    unfold updF at hk'
    split at hk'
    · rename_i e1; rw [e1]; exact hc
    · exact h.had k hk'
theorem ends_good {last N : Int} {cs : List CE} {x : DE} {e : Ev} {w : V1} (h : DGood last N cs x) (hl : last ≤ e.at_) (hst : x.d.st ≠ 0) : DGood e.at_ (N + 1) cs { x with v := w, d := x.d.ends e } := by
  have hn := h.n1
  have h0 := h.n0
  have hlt : ∀ j : Nat, (j : Int) < x.d.n + 1 → (j : Int) < x.d.n ∨ (j : Int) = x.d.n := fun j hj => by omega
  have rid : ∀ j : Nat, (j : Int) < x.d.n + 1 → ((j : Int) < x.d.n ∧ kcI (recId (x.d.ends e) j) = kcI (recId x.d j)) ∨ ((j : Int) = x.d.n ∧ kcI (recId (x.d.ends e) j) = kcI x.d.id) := by
    intro j hj
    rcases hlt j hj with q | q
    · exact .inl ⟨q, recId_old h0 q⟩
    · exact .inr ⟨q, recId_new h0 q⟩
  refine ⟨by show 0 ≤ x.d.n + 1; omega, by show x.d.n + 1 ≤ _; omega, ?_, ?_, ?_, ?_, ?_, fun q => absurd rfl q, fun q => absurd rfl q, h.had⟩
  · show x.d.began ≤ _; have := h.began; omega
  · show x.d.answered = 0 ∨ (x.d.began ≤ x.d.answered ∧ x.d.answered ≤ e.at_)
    rcases h.answered with q | q
    · exact .inl q
    · exact .inr ⟨q.1, by omega⟩
  · intro j hj
    show put1 x.d.r4 x.d.n x.d.began j ≤ put1 x.d.r6 x.d.n e.at_ j ∧ (put1 x.d.r5 x.d.n x.d.answered j = 0 ∨ (put1 x.d.r4 x.d.n x.d.began j ≤ put1 x.d.r5 x.d.n x.d.answered j ∧ put1 x.d.r5 x.d.n x.d.answered j ≤ put1 x.d.r6 x.d.n e.at_ j))
    rcases hlt j hj with q | q
    · rw [put1_old h0 q, put1_old h0 q, put1_old h0 q]; exact h.recs j q
    · rw [put1_new h0 q, put1_new h0 q, put1_new h0 q]
      refine ⟨by have := h.began; omega, ?_⟩
      rcases h.answered with q | q
      · exact .inl q
      · exact .inr ⟨q.1, by omega⟩
  · intro i j hi hj hne
    show kcI (recId (x.d.ends e) i) ≠ kcI (recId (x.d.ends e) j)
    rcases rid i hi with ⟨q1, q2⟩ | ⟨q1, q2⟩ <;> rcases rid j hj with ⟨q3, q4⟩ | ⟨q3, q4⟩
    · rw [q2, q4]; exact h.uniq i j q1 q3 hne
    · rw [q2, q4]; exact (h.cur hst).2 i q1
    · rw [q2, q4]; exact fun r => (h.cur hst).2 j q3 r.symm
    · omega
  · intro j hj
    show x.d.had (kcI (recId (x.d.ends e) j)) ≠ 0
    rcases rid j hj with ⟨q1, q2⟩ | ⟨q1, q2⟩
    · rw [q2]; exact h.inhad j q1
    · rw [q2]; exact (h.cur hst).1
theorem moves_good {last N : Int} {cs : List CE} {x : DE} {e : Ev} {w : V1} {d' : Dv} (h : DGood last N cs x) (hl : last ≤ e.at_) (hst : x.d.st ≠ 0) (hd : d' = x.d.connects e ∨ d' = x.d.active e) : DGood e.at_ (N + 1) cs { x with v := w, d := d' } := by
  have hn := h.n1
  rcases hd with rfl | rfl
  · refine ⟨h.n0, by show x.d.n ≤ _; omega, by show x.d.began ≤ _; have := h.began; omega, ?_, h.recs, h.uniq, h.inhad, fun _ => h.cur hst, fun _ => h.caller hst, h.had⟩
    show x.d.answered = 0 ∨ (x.d.began ≤ x.d.answered ∧ x.d.answered ≤ e.at_)
    rcases h.answered with q | q
    · exact .inl q
    · exact .inr ⟨q.1, by omega⟩
  · refine ⟨h.n0, by show x.d.n ≤ _; omega, by show x.d.began ≤ _; have := h.began; omega, ?_, h.recs, h.uniq, h.inhad, fun _ => h.cur hst, fun _ => h.caller hst, h.had⟩
    exact .inr ⟨by show x.d.began ≤ e.at_; have := h.began; omega, Int.le_refl _⟩

/-- What a step does, as far as the law goes. -/
structure Next (σ : Sys) (e : Ev) (σ' : Sys) (N : Int) : Prop where
  good : Good σ' N
  b : σ'.b = σ.b
  kept : ∀ y ∈ σ.cs, ∃ y' ∈ σ'.cs, Later e y y'
  from_ : ∀ y' ∈ σ'.cs, (∃ y ∈ σ.cs, Later e y y') ∨ (e.kind = 1 ∧ y'.k = kcI e.id ∧ y'.c.ca = e.da ∧ y'.c.cd = e.dd)
  dial : e.kind = 1 → ∀ y ∈ σ.cs, y.k ≠ kcI e.id
  active : e.kind = 4 → ∃ y' ∈ σ'.cs, y'.k = kcI e.id ∧ y'.c.took = true ∧ y'.c.known = true ∧ (∀ j, j < 32 → y'.c.print j = e.key j) ∧ ((e.da = y'.c.aa ∧ e.dd = y'.c.ad) ∨ (e.da = y'.c.ca ∧ e.dd = y'.c.cd))

theorem next {σ σ' : Sys} {e : Ev} {N : Int} (g : Good σ N) (h : Steps σ e σ') : Next σ e σ' (N + 1) := by
  cases h with
  | new l1 l2 x d' bc v1 hd hk hc hs =>
    obtain ⟨b, mc, ma, s, ds, cs⟩ := σ
    simp only at hd hc hs
    subst hd
    obtain ⟨hl, hkind, hst, rfl⟩ := step0_cases hs
    obtain ⟨wf, gd, gc⟩ := g
    have hx := gd x (by simp)
    have hnot : x.d.had (kcI e.id) = 0 := Classical.byContradiction fun q => by
      obtain ⟨y, hy, e1⟩ := hx.had _ q
      exact hc y hy e1
    have cmem : ∀ y ∈ cs, y ∈ (⟨kcI e.id, bc, v1, Cl.new e⟩ : CE) :: cs := fun y hy => List.mem_cons_of_mem _ hy
    have lat : ∀ z, DGood s.last N cs z → DGood e.at_ (N + 1) ((⟨kcI e.id, bc, v1, Cl.new e⟩ : CE) :: cs) z := fun z hz =>
      hz.later hl (by omega) (fun y' hy' => by
        rcases List.mem_cons.1 hy' with rfl | q
        · exact .inr fun y hy => hc y hy
        · exact .inl ⟨y', q, rfl, rfl, rfl⟩) fun y hy => ⟨y, cmem y hy, rfl⟩
    refine ⟨⟨⟨?_, ?_, ?_, ?_, ?_, ?_⟩, ?_, ?_⟩, rfl, fun y hy => ⟨y, cmem y hy, Later.refl e y⟩, ?_, fun _ => hc, fun q => by omega⟩
    · intro z hz
      rcases mem_mid.1 hz with q | rfl | q
      · exact wf.d1 z (mem_mid.2 (.inl q))
      · exact wf.d1 x (by simp)
      · exact wf.d1 z (mem_mid.2 (.inr (.inr q)))
    · intro k hk'
      refine wf.d0 k fun z hz => ?_
      rcases mem_mid.1 hz with q | rfl | q
      · exact hk' z (mem_mid.2 (.inl q))
      · exact (fun (q : ({ z with d := z.d.begins e 1 } : DE).k ≠ k) => q) (hk' _ (mem_mid.2 (.inr (.inl rfl))))
      · exact hk' z (mem_mid.2 (.inr (.inr q)))
    · intro y hy
      show updF s.hasC (kcI e.id) 1 y.k = 1 ∧ updF s.ptrC (kcI e.id) ((bc : Nat) + 1) y.k = (y.b : Nat) + 1
      rcases List.mem_cons.1 hy with rfl | q
      · simp [updF]
      · rw [updF, if_neg (hc y q), updF, if_neg (hc y q)]; exact wf.c1 y q
    · intro k hk'
      show updF s.hasC (kcI e.id) 1 k = 0 ∧ updF s.ptrC (kcI e.id) ((bc : Nat) + 1) k = 0
      have : k ≠ kcI e.id := fun q => hk' _ List.mem_cons_self q.symm
      rw [updF, if_neg this, updF, if_neg this]
      exact wf.c0 k fun y hy => hk' y (cmem y hy)
    · exact nd_mid (x := x) rfl wf.nd
    · exact List.Pairwise.cons (fun y hy => (hc y hy).symm) wf.nc
    · intro z hz
      rcases mem_mid.1 hz with q | rfl | q
      · exact lat z (gd z (mem_mid.2 (.inl q)))
      · have hx' : DGood s.last N ((⟨kcI e.id, bc, v1, Cl.new e⟩ : CE) :: cs) x := hx.later (Int.le_refl _) (Int.le_refl _) (fun y' hy' => by
          rcases List.mem_cons.1 hy' with rfl | q
          · exact .inr fun y hy => hc y hy
          · exact .inl ⟨y', q, rfl, rfl, rfl⟩) fun y hy => ⟨y, cmem y hy, rfl⟩
        refine begins_good hx' hl hnot ⟨_, List.mem_cons_self, rfl⟩ fun _ y hy hyk => ?_
        rcases List.mem_cons.1 hy with rfl | q
        · exact hk
        · exact absurd hyk (hc y q)
      · exact lat z (gd z (mem_mid.2 (.inr (.inr q))))
    · intro y hy
      rcases List.mem_cons.1 hy with rfl | q
      · have := (gd x (by simp)).n0; have := (gd x (by simp)).n1
        exact ⟨Int.le_refl _, by show (0 : Int) ≤ _; omega⟩
      · have := gc y q; exact ⟨this.1, by omega⟩
    · intro y' hy'
      rcases List.mem_cons.1 hy' with rfl | q
      · exact .inr ⟨hkind, rfl, rfl, rfl⟩
      · exact .inl ⟨y', q, Later.refl e y'⟩
  | old l1 l2 x m1 m2 y d' c' w w1 hd hk hc hy hs =>
    obtain ⟨b, mc, ma, s, ds, cs⟩ := σ
    simp only at hd hc hs
    subst hd
    subst hc
    obtain ⟨wf, gd, gc⟩ := g
    have hx := gd x (by simp)
    have hyn := gc y (by simp)
    have lt : Later e y { y with v := w1, c := c' } := Later.of_step hs
    obtain ⟨hl, hkind, hcase⟩ := step1_cases hs
    have keep : ∀ z ∈ m1 ++ y :: m2, ∃ z' ∈ m1 ++ { y with v := w1, c := c' } :: m2, Later e z z' := by
      intro z hz
      rcases mem_mid.1 hz with q | rfl | q
      · exact ⟨z, mem_mid.2 (.inl q), Later.refl e z⟩
      · exact ⟨_, mem_mid.2 (.inr (.inl rfl)), lt⟩
      · exact ⟨z, mem_mid.2 (.inr (.inr q)), Later.refl e z⟩
    have came : ∀ z' ∈ m1 ++ { y with v := w1, c := c' } :: m2, ∃ z ∈ m1 ++ y :: m2, Later e z z' := by
      intro z hz
      rcases mem_mid.1 hz with q | rfl | q
      · exact ⟨z, mem_mid.2 (.inl q), Later.refl e z⟩
      · exact ⟨y, mem_mid.2 (.inr (.inl rfl)), lt⟩
      · exact ⟨z, mem_mid.2 (.inr (.inr q)), Later.refl e z⟩
    have lat : ∀ l M z, s.last ≤ l → N ≤ M → DGood s.last N (m1 ++ y :: m2) z → DGood l M (m1 ++ { y with v := w1, c := c' } :: m2) z := fun l M z h1 h2 hz =>
      hz.later h1 h2 (fun y' hy' => by
        obtain ⟨z, hz, q⟩ := came y' hy'
        exact .inl ⟨z, hz, q.k, q.caller⟩) fun z hz => by
        obtain ⟨z', hz', q⟩ := keep z hz
        exact ⟨z', hz', q.k⟩
    refine ⟨⟨⟨?_, ?_, ?_, ?_, ?_, ?_⟩, ?_, ?_⟩, rfl, keep, fun y' hy' => .inl (came y' hy'), fun q => absurd q hkind, fun q4 => ?_⟩
    · intro z hz
      rcases mem_mid.1 hz with q | rfl | q
      · exact wf.d1 z (mem_mid.2 (.inl q))
      · exact wf.d1 x (by simp)
      · exact wf.d1 z (mem_mid.2 (.inr (.inr q)))
    · intro k hk'
      refine wf.d0 k fun z hz => ?_
      rcases mem_mid.1 hz with q | rfl | q
      · exact hk' z (mem_mid.2 (.inl q))
      · exact (fun (q : ({ z with v := w, d := d' } : DE).k ≠ k) => q) (hk' _ (mem_mid.2 (.inr (.inl rfl))))
      · exact hk' z (mem_mid.2 (.inr (.inr q)))
    · intro z hz
      rcases mem_mid.1 hz with q | rfl | q
      · exact wf.c1 z (mem_mid.2 (.inl q))
      · exact wf.c1 y (by simp)
      · exact wf.c1 z (mem_mid.2 (.inr (.inr q)))
    · intro k hk'
      refine wf.c0 k fun z hz => ?_
      rcases mem_mid.1 hz with q | rfl | q
      · exact hk' z (mem_mid.2 (.inl q))
      · exact (fun (q : ({ z with v := w1, c := c' } : CE).k ≠ k) => q) (hk' _ (mem_mid.2 (.inr (.inl rfl))))
      · exact hk' z (mem_mid.2 (.inr (.inr q)))
    · exact nd_mid (x := x) rfl wf.nd
    · exact nc_mid (x := y) rfl wf.nc
    · intro z hz
      rcases mem_mid.1 hz with q | rfl | q
      · exact lat _ _ z hl (by omega) (gd z (mem_mid.2 (.inl q)))
      · have hx' := lat s.last N x (Int.le_refl _) (Int.le_refl _) hx
        rcases hcase with ⟨_, h2, h3, rfl, _⟩ | ⟨h2, h3, (⟨_, rfl, _⟩ | ⟨_, rfl, _⟩ | ⟨_, rfl, _⟩ | ⟨_, rfl, _⟩)⟩
        · exact begins_good hx' hl h3 ⟨_, mem_mid.2 (.inr (.inl rfl)), hy⟩ fun q => by omega
        · exact moves_good hx' hl h2 (.inl rfl)
        · exact moves_good hx' hl h2 (.inl rfl)
        · exact moves_good hx' hl h2 (.inr rfl)
        · exact ends_good hx' hl h2
      · exact lat _ _ z hl (by omega) (gd z (mem_mid.2 (.inr (.inr q))))
    · intro z hz
      rcases mem_mid.1 hz with q | rfl | q
      · have := gc z (mem_mid.2 (.inl q)); exact ⟨this.1, by omega⟩
      · show 0 ≤ c'.n ∧ c'.n ≤ N + 1
        rcases hcase with ⟨_, h2, h3, _, rfl⟩ | ⟨h2, h3, (⟨_, _, _, rfl⟩ | ⟨_, _, rfl⟩ | ⟨_, _, rfl, _⟩ | ⟨_, _, rfl⟩)⟩ <;> first | omega | (simp only [Cl.takes, Cl.joins, Cl.active, Cl.ends]; omega)
      · have := gc z (mem_mid.2 (.inr (.inr q))); exact ⟨this.1, by omega⟩
    · rcases hcase with ⟨h1, _⟩ | ⟨h2, h3, (⟨h1, _⟩ | ⟨h1, _⟩ | ⟨_, rfl, rfl, h4⟩ | ⟨h1, _⟩)⟩
      · omega
      · exact absurd q4 h1
      · exact absurd q4 h1
      · refine ⟨_, mem_mid.2 (.inr (.inl rfl)), hy, ?_, rfl, fun _ _ => rfl, ?_⟩
        · unfold activeOk at h4
          split at h4
          · exact Classical.byContradiction fun q => h4 (.inl (.inl (.inr q)))
          · exact Classical.byContradiction fun q => h4 (.inl (.inl (.inr q)))
        · unfold activeOk at h4
          split at h4
          · rename_i ho
            have hid : kcI x.d.id = kcI e.id := kcI_congr h3
            have := hx.caller h2 ho y (by simp) (hy.trans hid.symm)
            exact .inr (kcD_inj (hk.symm.trans this))
          · have : y.c.aa = e.da ∧ y.c.ad = e.dd := Classical.byContradiction fun q => h4 (.inl (.inr q))
            exact .inl ⟨this.1.symm, this.2.symm⟩
      · exact absurd q4 h1
end Go.RX.So

namespace Go.RX.So
open Go.RX Go.Proofs

structure Notes (σ : Sys) (hasT t0 t1 hasP pr k0 k1 : Nat → Int) : Prop where
  T : ∀ k, hasT k ≠ 0 → ∃ y ∈ σ.cs, y.k = k ∧ y.c.took = true ∧ t0 k = y.c.aa ∧ t1 k = y.c.ad
  P : ∀ k, hasP k ≠ 0 → ∃ y ∈ σ.cs, y.k = k ∧ y.c.known = true ∧ ∀ j, j < 32 → pr (k * 32 + j) = y.c.print j
  K : ∀ y ∈ σ.cs, k0 y.k = y.c.ca ∧ k1 y.k = y.c.cd

theorem Good.mono {σ : Sys} {N M : Int} (h : Good σ N) (hl : N ≤ M) : Good σ M :=
  ⟨h.wf, fun x hx => (h.ds x hx).later (Int.le_refl _) hl (fun y hy => .inl ⟨y, hy, rfl, rfl, rfl⟩) fun y hy => ⟨y, hy, rfl⟩, fun y hy => ⟨(h.cn y hy).1, by have := (h.cn y hy).2; omega⟩⟩
theorem one_call {σ : Sys} (wf : σ.Wf) {y z : CE} (hy : y ∈ σ.cs) (hz : z ∈ σ.cs) (h : z.k = y.k) : z = y := by
  obtain ⟨l1, l2, hl⟩ := List.append_of_mem hy
  have := wf.nc
  rw [hl] at this hz
  exact nc_at this z hz h

section
variable {σ σ' : Sys} {e : Ev} {N : Int} {hasT t0 t1 hasP pr k0 k1 : Nat → Int}
theorem Notes.T' (nt : Notes σ hasT t0 t1 hasP pr k0 k1) (nx : Next σ e σ' N) : ∀ k, hasT k ≠ 0 → ∃ y ∈ σ'.cs, y.k = k ∧ y.c.took = true ∧ t0 k = y.c.aa ∧ t1 k = y.c.ad := by
  intro k hk
  obtain ⟨y, hy, q1, q2, q3, q4⟩ := nt.T k hk
  obtain ⟨y', hy', l⟩ := nx.kept y hy
  obtain ⟨l1, l2, l3⟩ := l.took q2
  exact ⟨y', hy', l.k.trans q1, l1, q3.trans l2.symm, q4.trans l3.symm⟩
theorem Notes.P' (nt : Notes σ hasT t0 t1 hasP pr k0 k1) (nx : Next σ e σ' N) : ∀ k, hasP k ≠ 0 → ∃ y ∈ σ'.cs, y.k = k ∧ y.c.known = true ∧ ∀ j, j < 32 → pr (k * 32 + j) = y.c.print j := by
  intro k hk
  obtain ⟨y, hy, q1, q2, q3⟩ := nt.P k hk
  obtain ⟨y', hy', l⟩ := nx.kept y hy
  obtain ⟨l1, l2⟩ := l.known q2
  exact ⟨y', hy', l.k.trans q1, l1, fun j hj => (q3 j hj).trans (l2 j hj).symm⟩
theorem Notes.K' (nt : Notes σ hasT t0 t1 hasP pr k0 k1) (nx : Next σ e σ' N) (h : e.kind ≠ 1) : ∀ y ∈ σ'.cs, k0 y.k = y.c.ca ∧ k1 y.k = y.c.cd := by
  intro y' hy'
  rcases nx.from_ y' hy' with ⟨y, hy, l⟩ | ⟨q, _⟩
  · rw [l.k, l.caller.1, l.caller.2]; exact nt.K y hy
  · exact absurd q h
theorem Notes.K1 (nt : Notes σ hasT t0 t1 hasP pr k0 k1) (nx : Next σ e σ' N) (h : e.kind = 1) : ∀ y ∈ σ'.cs, updF k0 (kcI e.id) e.da y.k = y.c.ca ∧ updF k1 (kcI e.id) e.dd y.k = y.c.cd := by
  intro y' hy'
  rcases nx.from_ y' hy' with ⟨y, hy, l⟩ | ⟨_, q1, q2, q3⟩
  · have : y.k ≠ kcI e.id := nx.dial h y hy
    rw [l.k, l.caller.1, l.caller.2, updF, if_neg this, updF, if_neg this]; exact nt.K y hy
  · rw [q1, q2, q3]; simp [updF]
/-- Who is told to have answered is who is noted. -/
theorem ans_noted (nt : Notes σ hasT t0 t1 hasP pr k0 k1) (nx : Next σ e σ' N) {a d : Int} {q : Bool} (h : σ'.ans e.id a d q) (hT : hasT (kcI e.id) ≠ 0) : q = true ∧ t0 (kcI e.id) = a ∧ t1 (kcI e.id) = d := by
  obtain ⟨y, hy, q1, q2, q3, q4⟩ := nt.T' nx _ hT
  rcases h with ⟨hno, _⟩ | ⟨z, hz, r1, r2, r3, r4⟩
  · exact absurd q1 (hno y hy)
  · have := one_call nx.good.wf hy hz (r1.trans q1.symm)
    subst this
    exact ⟨r4.trans q2, q3.trans r2.symm, q4.trans r3.symm⟩
theorem T_set (hT : ∀ k, hasT k ≠ 0 → ∃ y ∈ σ'.cs, y.k = k ∧ y.c.took = true ∧ t0 k = y.c.aa ∧ t1 k = y.c.ad) {id : Nat → Int} {a d : Int} {q : Bool} (h : σ'.ans id a d q) (hq : q = true) :
    ∀ k, updF hasT (kcI id) 1 k ≠ 0 → ∃ y ∈ σ'.cs, y.k = k ∧ y.c.took = true ∧ updF t0 (kcI id) a k = y.c.aa ∧ updF t1 (kcI id) d k = y.c.ad := by
  intro k hk
  by_cases he : k = kcI id
  · subst he
    rcases h with ⟨_, _, _, h4⟩ | ⟨z, hz, r1, r2, r3, r4⟩
    · rw [hq] at h4; cases h4
    · exact ⟨z, hz, r1, r4.symm.trans hq, by simp [updF, r2], by simp [updF, r3]⟩
  · rw [updF, if_neg he] at hk
    rw [updF, if_neg he, updF, if_neg he]
    exact hT k hk
/-- An active one: its print is the call's; it is the answerer, or the caller. -/
theorem active_ok (nt : Notes σ hasT t0 t1 hasP pr k0 k1) (nx : Next σ e σ' N) (h4 : e.kind = 4) {a d : Int} {q : Bool} (h : σ'.ans e.id a d q) :
    q = true ∧ (hasP (kcI e.id) ≠ 0 → ∀ j, j < 32 → pr (kcI e.id * 32 + j) = e.key j) ∧ ((e.da = a ∧ e.dd = d) ∨ (e.da = k0 (kcI e.id) ∧ e.dd = k1 (kcI e.id))) := by
  obtain ⟨y, hy, q1, q2, q3, q4, q5⟩ := nx.active h4
  rcases h with ⟨hno, _⟩ | ⟨z, hz, r1, r2, r3, r4⟩
  · exact absurd q1 (hno y hy)
  have hzy := one_call nx.good.wf hy hz (r1.trans q1.symm)
  subst hzy
  refine ⟨r4.trans q2, fun hP j hj => ?_, ?_⟩
  · obtain ⟨w, hw, s1, s2, s3⟩ := nt.P' nx _ hP
    have := one_call nx.good.wf hy hw (s1.trans q1.symm)
    subst this
    exact (s3 j hj).trans (q4 j hj)
  · have hK := nt.K' nx (by omega) z hy
    rw [q1] at hK
    rcases q5 with q5 | q5
    · exact .inl ⟨q5.1.trans r2.symm, q5.2.trans r3.symm⟩
    · exact .inr ⟨q5.1.trans hK.1.symm, q5.2.trans hK.2.symm⟩
theorem P_set (nt : Notes σ hasT t0 t1 hasP pr k0 k1) (nx : Next σ e σ' N) (h4 : e.kind = 4) :
    ∀ k, updF hasP (kcI e.id) 1 k ≠ 0 → ∃ y ∈ σ'.cs, y.k = k ∧ y.c.known = true ∧ ∀ j, j < 32 → splF pr (kcI e.id * 32) 32 e.key (k * 32 + j) = y.c.print j := by
  intro k hk
  by_cases he : k = kcI e.id
  · subst he
    obtain ⟨y, hy, q1, q2, q3, q4, q5⟩ := nx.active h4
    refine ⟨y, hy, q1, q3, fun j hj => ?_⟩
    unfold splF
    rw [if_pos (by omega), Nat.add_sub_cancel_left]
    exact (q4 j hj).symm
  · rw [updF, if_neg he] at hk
    obtain ⟨y, hy, q1, q2, q3⟩ := nt.P' nx k hk
    refine ⟨y, hy, q1, q2, fun j hj => ?_⟩
    unfold splF
    rw [if_neg (by omega)]
    exact q3 j hj
end

theorem step_star (σ : Sys) (g : Good σ 1000) (e : Ev) (ha : 0 ≤ e.acc) (hb : e.acc < 256) :
    Meets Try.prog 36 [.pointer (some ⟨σ.b, 0, none⟩), e.val] [HP.star σ.hps]
      (fun r hs => (r = .int .i64 6 ∧ hs = [HP.star σ.hps]) ∨ (r = .int .i64 0 ∧ ∃ σ', Steps σ e σ' ∧ hs = [HP.star σ'.hps])) := by
  refine ((step_sys σ g.wf e (fun x hx => ⟨(g.ds x hx).n0, by have := (g.ds x hx).n1; omega⟩) (fun y hy => ⟨(g.cn y hy).1, by have := (g.cn y hy).2; omega⟩) ha hb).pre (Ent.unstar _)).post ?_
  rintro r hs (⟨rfl, rfl, _⟩ | ⟨rfl, σ', h, rfl⟩)
  · exact ⟨_, Ent.star (sys_wr σ), .inl ⟨rfl, rfl⟩⟩
  · exact ⟨_, Ent.star (sys_wr σ'), .inr ⟨rfl, σ', h, rfl⟩⟩
theorem ans_star (σ : Sys) (wf : σ.Wf) (id : Nat → Int) :
    Meets Try.prog 37 [.pointer (some ⟨σ.b, 0, none⟩), idVal id] [HP.star σ.hps] (fun r hs => hs = [HP.star σ.hps] ∧ ∃ a d q, r = .tuple #[.agg #[.int .u8 a, .int .u8 d], .bool q] ∧ σ.ans id a d q) := by
  refine ((ans_sys σ wf id).pre (Ent.unstar _)).post ?_
  rintro r hs ⟨rfl, h⟩
  exact ⟨_, Ent.star (sys_wr σ), rfl, h⟩

/-- What of a system is no row and no map of its own. -/
def Sys.rest (σ : Sys) : List HP := σ.ds.flatMap DE.hps ++ σ.cs.flatMap CE.hps
theorem rest_wr (σ : Sys) : ∀ h ∈ σ.rest, h.wr = true := fun h hh => sys_wr σ h (by simp only [Sys.hps, List.mem_append]; exact .inr (by simpa [Sys.rest] using hh))
theorem sys_open (σ : Sys) : Ent [HP.star σ.hps] ([HP.star σ.rest] ++ sysHPs σ.b σ.mc σ.ma σ.s) := by
  refine Ent.trans (Ent.unstar _) ?_
  have : σ.hps = sysHPs σ.b σ.mc σ.ma σ.s ++ σ.rest := rfl
  rw [this]
  refine Ent.trans (Ent.perm List.perm_append_comm) (Ent.frame (Ent.star (rest_wr σ)) _)
/-- A device of the rest. -/
theorem dev_open (σ : Sys) {x : DE} {l1 l2 : List DE} (h : σ.ds = l1 ++ x :: l2) (R : List HP) : Ent ([HP.star σ.rest] ++ R) ([HP.star (l1.flatMap DE.hps ++ l2.flatMap DE.hps ++ σ.cs.flatMap CE.hps)] ++ (R ++ x.hps)) := by
  have e : σ.rest.Perm ((l1.flatMap DE.hps ++ l2.flatMap DE.hps ++ σ.cs.flatMap CE.hps) ++ x.hps) := by
    unfold Sys.rest
    rw [h]
    simp only [List.flatMap_append, List.flatMap_cons, List.append_assoc]
    refine (List.perm_append_comm_assoc _ _ _).trans (List.perm_append_comm.trans ?_)
    simp only [List.append_assoc]
    exact List.Perm.refl _
  refine Ent.trans (Ent.frame (Ent.trans (Ent.unstar _) (Ent.perm e)) R) ?_
  rw [List.append_assoc]
  refine Ent.trans (Ent.frame (Ent.star fun h' hh => ?_) _) ?_
  · refine rest_wr σ h' (e.mem_iff.2 (List.mem_append_left _ hh))
  · exact Ent.perm (List.Perm.append_left _ List.perm_append_comm)
theorem dev_shut (σ : Sys) {x : DE} {l1 l2 : List DE} (h : σ.ds = l1 ++ x :: l2) (R : List HP) : Ent ([HP.star (l1.flatMap DE.hps ++ l2.flatMap DE.hps ++ σ.cs.flatMap CE.hps)] ++ (R ++ x.hps)) ([HP.star σ.rest] ++ R) := by
  have e : ((l1.flatMap DE.hps ++ l2.flatMap DE.hps ++ σ.cs.flatMap CE.hps) ++ x.hps).Perm σ.rest := by
    unfold Sys.rest
    rw [h]
    simp only [List.flatMap_append, List.flatMap_cons, List.append_assoc]
    refine List.Perm.symm ((List.perm_append_comm_assoc _ _ _).trans (List.perm_append_comm.trans ?_))
    simp only [List.append_assoc]
    exact List.Perm.refl _
  have p : ∀ A : List HP, (A ++ (R ++ x.hps)).Perm ((A ++ x.hps) ++ R) := fun A => by rw [List.append_assoc]; exact List.Perm.append_left _ List.perm_append_comm
  refine Ent.trans (Ent.frame (Ent.unstar _) _) ?_
  refine Ent.trans (b := ((l1.flatMap DE.hps ++ l2.flatMap DE.hps ++ σ.cs.flatMap CE.hps) ++ x.hps) ++ R) (Ent.perm (p _)) ?_
  exact Ent.frame (Ent.trans (Ent.perm e) (Ent.star (rest_wr σ))) R
end Go.RX.So

namespace Go.RX.So
open Go.RX Go.Proofs

theorem works_ran : (runF Sl.cx 34 [] [] {} Try.f34).triv = true := by kernel_rfl
theorem works_meets : Meets Try.prog 34 [] [] (fun v hs => v = .bool true ∧ hs = []) := Meets.triv (C := Sl.cx) okT okFT okM Try.func34 works_ran

abbrev evCells (n : Nat) (A0 A1 A2 A3 A4 A5 A6 A7 A8 A9 : Nat → Int) : List Value :=
  tabL n [colI .u8 1 A0, colI .u8 1 A1, colI .u8 1 A2, colI .u64 1 A3, colI .u8 16 A4, colI .u8 1 A5, colI .u8 1 A6, colI .u8 1 A7, colI .u8 32 A8, colI .u8 1 A9]
abbrev Z : Nat → Int := fun _ => 0

theorem law_meets (v0 : V1) (n : Int) (A0 A1 A2 A3 A4 A5 A6 A7 A8 A9 A10 : Nat → Int) (h0 : 0 ≤ n) (hacc : ∀ i, (i : Nat) < n.toNat → 0 ≤ A5 i ∧ A5 i < 256) :
    Meets Try.prog 7 [.agg (List.append (segCells .u8 8 A10) ([])).toArray, v0.v] [sliHP false 76 56 v0.v (Int.toNat n) (evCells (Int.toNat n) A0 A1 A2 A3 A4 A5 A6 A7 A8 A9)] (fun r _ => r = .bool true) := by
  refine Meets.of_runE (C := Sl.cx) (args := Sl.lawArgs) (hp := Sl.lawHp) (cnt := Sl.lawCnt) (ρ := { iv := [n], av := [A0, A1, A2, A3, A4, A5, A6, A7, A8, A9, A10], vv := [v0] }) okT okFT okM Try.func7 (by constructor <;> rfl) Sl.run_law
    (Sl.vc_law Try.prog (fun v _ => v = .bool true) n A0 A1 A2 A3 A4 A5 A6 A7 A8 A9 A10 v0 _) ?_
  unfold Sl.st_law
  intro b0 b1
  refine ⟨_, works_meets, ?_⟩
  rintro r hs ⟨rfl, rfl⟩
  refine ⟨rfl, rfl, Need.mk h0 fun _ => Fork.mk (fun _ => rfl) fun hle => ?_⟩
  refine ⟨_, new_meets A10, ?_⟩
  rintro r hs ⟨σ0, rfl, rfl, wf0, cs0, last0, -, dv0'⟩
  refine ⟨σ0.b, HP.star σ0.hps, rfl, rfl, ?_⟩
  intro b3 b4 b5
  have good0 : Good σ0 0 := by
    refine ⟨wf0, fun x hx => ?_, fun y hy => ?_⟩
    · have hd := dv0' x hx
      refine ⟨?_, ?_, ?_, ?_, ?_, ?_, ?_, ?_, ?_, ?_⟩ <;> rw [hd]
      · exact Int.le_refl _
      · exact Int.le_refl _
      · rw [last0]; exact Int.le_refl _
      · exact .inl rfl
      · intro j hj; exact absurd hj (by simp [dv0])
      · intro i j hi; exact absurd hi (by simp [dv0])
      · intro j hj; exact absurd hj (by simp [dv0])
      · intro q; exact absurd rfl q
      · intro q; exact absurd rfl q
      · intro k hk; exact absurd rfl hk
    · rw [cs0] at hy; cases hy
  refine ⟨fun e => 0 ≤ e.i.getD 0 0 ∧ e.i.getD 0 0 ≤ n ∧ ∃ σ : Sys, σ.b = σ0.b ∧ e.p.getD 0 HP.emp = HP.star σ.hps ∧ Good σ (e.i.getD 0 0) ∧
      Notes σ (e.a.getD 0 Z) (e.a.getD 1 Z) (e.a.getD 2 Z) (e.a.getD 3 Z) (e.a.getD 4 Z) (e.a.getD 6 Z) (e.a.getD 7 Z), fun e => (n - e.i.getD 0 0).toNat, ?_, ?_⟩
  · refine ⟨0, _, _, _, _, _, _, _, _, _, rfl, rfl, rfl, rfl, rfl, rfl, rfl, rfl, rfl, rfl, Int.le_refl _, h0, σ0, rfl, rfl, good0, ?_⟩
    exact ⟨fun k hk => absurd rfl hk, fun k hk => absurd rfl hk, fun y hy => by rw [cs0] at hy; cases hy⟩
  rintro i A11 A12 A13 A14 A15 A16 A17 A18 p1 ⟨hi0, hin, σ, hb, hp, hg, hnt⟩
  simp only [List.getD_cons_zero, List.getD_cons_succ] at hi0 hin hp hg hnt
  subst hp
  refine Fork.mk (fun hlt => Need.mk hi0 fun _ => fun b6 => ?_) fun hge => ?_
  · -- an event
    have hq := hacc i.toNat (by omega)
    let e : Ev := ⟨A0 i.toNat, A1 i.toNat, A2 i.toNat, A3 i.toNat, shiftF A4 (i * 16).toNat, A5 i.toNat, A6 i.toNat, A7 i.toNat, shiftF A8 (i * 32).toNat, A9 i.toNat⟩
    have hstep := step_star σ (hg.mono (by omega)) e hq.1 hq.2
    rw [hb] at hstep
    refine ⟨_, hstep, ?_⟩
    rintro r hs (⟨rfl, rfl⟩ | ⟨rfl, σ', hst, rfl⟩)
    · refine ⟨6, _, rfl, rfl, Fork.mk (fun _ => ?_) fun q => absurd (by decide) q⟩
      refine Need.mk (by omega) fun _ => Need.mk (by omega) fun _ => ⟨_, _, _, _, _, _, _, _, _, _, rfl, rfl, rfl, rfl, rfl, rfl, rfl, rfl, rfl, rfl, ?_, ?_⟩
      · simp only [List.getD_cons_zero, List.getD_cons_succ]
        exact ⟨by omega, by omega, σ, hb, rfl, hg.mono (by omega), hnt⟩
      · simp only [List.getD_cons_zero]; omega
    have nx := next hg hst
    refine ⟨0, _, rfl, rfl, Fork.mk (fun q => absurd rfl q) fun _ => ?_⟩
    have hm : Int.toNat (((kcode ((List.range 16).map (shiftF A4 (Int.toNat (i * 16)))) : Nat) : Int) * 32) = kcI e.id * 32 := by
      have : ∀ k : Nat, Int.toNat ((k : Int) * 32) = k * 32 := by omega
      exact this _
    have hkk : Int.toNat ((kcode ((List.range 16).map (shiftF A4 (Int.toNat (i * 16)))) : Nat) : Int) = kcI e.id := rfl
    have hansM := ans_star σ' nx.good.wf e.id
    rw [nx.b, hb] at hansM
    have key : ∀ (hk1 : Nat → Int) (hk2 : Nat → Int), (∀ y ∈ σ'.cs, hk1 y.k = y.c.ca ∧ hk2 y.k = y.c.cd) → ∀ (T t0 t1 P pr : Nat → Int),
        (∀ k, T k ≠ 0 → ∃ y ∈ σ'.cs, y.k = k ∧ y.c.took = true ∧ t0 k = y.c.aa ∧ t1 k = y.c.ad) → (∀ k, P k ≠ 0 → ∃ y ∈ σ'.cs, y.k = k ∧ y.c.known = true ∧ ∀ j, j < 32 → pr (k * 32 + j) = y.c.print j) →
        0 ≤ i + 1 ∧ i + 1 ≤ n ∧ ∃ σ1 : Sys, σ1.b = σ0.b ∧ HP.star σ'.hps = HP.star σ1.hps ∧ Good σ1 (i + 1) ∧ Notes σ1 T t0 t1 P pr hk1 hk2 :=
      fun hk1 hk2 hK T t0 t1 P pr hT hP => ⟨by omega, by omega, σ', nx.b.trans hb, rfl, nx.good, hT, hP, hK⟩
    refine Fork.mk (fun k1 => ?_) fun k1 => ?_
    · refine ⟨_, hansM, ?_⟩
      rintro r hs ⟨rfl, a, d, q, rfl, hans⟩
      refine ⟨a, d, q, rfl, rfl, fun _ _ => Fork.mk (fun bad => ?_) fun _ => Fork.mk (fun hq1 => ?_) fun hq1 => ?_⟩
      · exfalso
        obtain ⟨r1, r2, r3⟩ := ans_noted hnt nx hans bad.1
        exact bad.2.elim (fun q => q r1) fun q => q ⟨r2, r3⟩
      · refine Fork.mk (fun k4 => ?_) fun k4 => ?_
        · exact absurd (k1.symm.trans k4) (by decide)
        · refine Need.mk (by omega) fun _ => Need.mk (by omega) fun _ => ⟨_, _, _, _, _, _, _, _, _, _, rfl, rfl, rfl, rfl, rfl, rfl, rfl, rfl, rfl, rfl, ?_, ?_⟩
          · simp only [List.getD_cons_zero, List.getD_cons_succ]
            exact key _ _ (hnt.K1 nx k1) _ _ _ _ _ (T_set (hnt.T' nx) hans hq1) (hnt.P' nx)
          · simp only [List.getD_cons_zero]; omega
      · refine Fork.mk (fun k4 => ?_) fun k4 => ?_
        · exact absurd (k1.symm.trans k4) (by decide)
        · refine Need.mk (by omega) fun _ => Need.mk (by omega) fun _ => ⟨_, _, _, _, _, _, _, _, _, _, rfl, rfl, rfl, rfl, rfl, rfl, rfl, rfl, rfl, rfl, ?_, ?_⟩
          · simp only [List.getD_cons_zero, List.getD_cons_succ]
            exact key _ _ (hnt.K1 nx k1) _ _ _ _ _ (hnt.T' nx) (hnt.P' nx)
          · simp only [List.getD_cons_zero]; omega
    · refine ⟨_, hansM, ?_⟩
      rintro r hs ⟨rfl, a, d, q, rfl, hans⟩
      refine ⟨a, d, q, rfl, rfl, fun _ _ => Fork.mk (fun bad => ?_) fun _ => Fork.mk (fun hq1 => ?_) fun hq1 => ?_⟩
      · exfalso
        obtain ⟨r1, r2, r3⟩ := ans_noted hnt nx hans bad.1
        exact bad.2.elim (fun q => q r1) fun q => q ⟨r2, r3⟩
      · refine Fork.mk (fun k4 => ?_) fun k4 => ?_
        · obtain ⟨r1, r2, r3⟩ := active_ok hnt nx k4 hans
          intro _
          rw [hm]
          refine Fork.mk (fun bad => ?_) fun _ => ?_
          · exfalso
            rcases bad with ⟨q1, q2⟩ | ⟨q1, q2⟩
            · exact q2 fun j hj => r2 q1 j hj
            · exact r3.elim (fun q => q1 q) fun q => q2 q
          · refine Need.mk (by omega) fun _ => Need.mk (by omega) fun _ => ⟨_, _, _, _, _, _, _, _, _, _, rfl, rfl, rfl, rfl, rfl, rfl, rfl, rfl, rfl, rfl, ?_, ?_⟩
            · simp only [List.getD_cons_zero, List.getD_cons_succ]
              rw [hkk]
              have hP := P_set hnt nx k4
              exact key A17 A18 (hnt.K' nx k1) _ _ _ _ _ (T_set (hnt.T' nx) hans hq1) hP
            · simp only [List.getD_cons_zero]; omega
        · refine Need.mk (by omega) fun _ => Need.mk (by omega) fun _ => ⟨_, _, _, _, _, _, _, _, _, _, rfl, rfl, rfl, rfl, rfl, rfl, rfl, rfl, rfl, rfl, ?_, ?_⟩
          · simp only [List.getD_cons_zero, List.getD_cons_succ]
            exact key _ _ (hnt.K' nx k1) _ _ _ _ _ (T_set (hnt.T' nx) hans hq1) (hnt.P' nx)
          · simp only [List.getD_cons_zero]; omega
      · refine Fork.mk (fun k4 => ?_) fun k4 => ?_
        · obtain ⟨r1, r2, r3⟩ := active_ok hnt nx k4 hans
          exact absurd r1 hq1
        · refine Need.mk (by omega) fun _ => Need.mk (by omega) fun _ => ⟨_, _, _, _, _, _, _, _, _, _, rfl, rfl, rfl, rfl, rfl, rfl, rfl, rfl, rfl, rfl, ?_, ?_⟩
          · simp only [List.getD_cons_zero, List.getD_cons_succ]
            exact key _ _ (hnt.K' nx k1) _ _ _ _ _ (hnt.T' nx) (hnt.P' nx)
          · simp only [List.getD_cons_zero]; omega
  · -- what the logs tell
    refine Need.mk h0 fun _ => ?_
    have hopen := sys_open σ
    rw [hb] at hopen
    refine ⟨fun e => e = ⟨[σ.mc, σ.ma], [], [σ.s.last], [σ.s.dv, σ.s.hasC, σ.s.ptrC, σ.s.hasD, σ.s.ptrD], [], [HP.star σ.rest], []⟩, fun w Fs o => ⟨σ.mc, σ.ma, σ.s.last, σ.s.dv, σ.s.hasC, σ.s.ptrC, σ.s.hasD, σ.s.ptrD, HP.star σ.rest, hopen w Fs o, rfl⟩, ?_⟩
    intro b6 b7 x2 A19 A20 A21 A22 A23 p2 hext
    simp only [Ext.mk.injEq, List.cons.injEq, and_true, true_and] at hext
    obtain ⟨⟨rfl, rfl⟩, rfl, ⟨rfl, rfl, rfl, rfl, rfl⟩, rfl⟩ := hext
    intro b8
    refine ⟨fun e => 0 ≤ e.i.getD 0 0, fun e => (n - e.i.getD 0 0).toNat, ⟨b8, 0, rfl, rfl, rfl, Int.le_refl _⟩, ?_⟩
    intro b9 x3 hx3
    simp only [List.getD_cons_zero] at hx3
    refine Fork.mk (fun hlt3 => Need.mk hx3 fun _ => fun b10 b11 b12 b13 b14 => ?_) fun _ => rfl
    refine Fork.mk (fun hdev => ?_) fun hdev => ?_
    · -- a device
      have hex : ∃ x ∈ σ.ds, x.k = kcD (A1 x3.toNat) (A2 x3.toNat) := Classical.byContradiction fun q => hdev (hg.wf.d0 _ fun x hx hk => q ⟨x, hx, hk⟩).1
      obtain ⟨x, hx, hk⟩ := hex
      have dg := hg.ds x hx
      obtain ⟨d1, d2⟩ := hg.wf.d1 x hx
      rw [hk] at d1 d2
      have e1 := updF_self d1
      have e2 := updF_self d2
      obtain ⟨l1, l2, hl⟩ := List.append_of_mem hx
      refine ⟨fun e => e = ⟨[x.b, x.h], [x.v], [x.d.st, x.d.out, x.d.acc, x.d.pa, x.d.pd, x.d.began, x.d.answered, x.d.n], [x.d.id, x.d.had, x.d.r0, x.d.r1, x.d.r2, x.d.r3, x.d.r4, x.d.r5, x.d.r6], [], [HP.star (l1.flatMap DE.hps ++ l2.flatMap DE.hps ++ σ.cs.flatMap CE.hps)], []⟩,
        fun w Fs o => ⟨x.b, x.h, x.v, x.d.st, x.d.out, x.d.acc, x.d.pa, x.d.pd, x.d.began, x.d.answered, x.d.n, x.d.id, x.d.had, x.d.r0, x.d.r1, x.d.r2, x.d.r3, x.d.r4, x.d.r5, x.d.r6, HP.star (l1.flatMap DE.hps ++ l2.flatMap DE.hps ++ σ.cs.flatMap CE.hps), ?_, rfl⟩, ?_⟩
      · have := dev_open σ hl [mapHP σ.ma [.u8, .u8] true false ([.pointer none]) (fun i => !(σ.s.hasD i == 0)) (mcols [colP 1 σ.s.ptrD])] w Fs o
        rw [← e1, ← e2] at this
        exact this
      intro b15 b16 v1 x4 x5 x6 x7 x8 x9 x10 x11 A24 A25 A26 A27 A28 A29 A30 A31 A32 p3 hext
      simp only [Ext.mk.injEq, List.cons.injEq, and_true, true_and] at hext
      obtain ⟨⟨rfl, rfl⟩, rfl, ⟨rfl, rfl, rfl, rfl, rfl, rfl, rfl, rfl⟩, ⟨rfl, rfl, rfl, rfl, rfl, rfl, rfl, rfl, rfl⟩, rfl⟩ := hext
      intro D l rr
      refine Need.mk dg.n0 fun _ => ⟨fun e => 0 ≤ e.i.getD 0 0 ∧ ∀ k, (e.a.getD 0 Z) k ≠ 0 → ∃ t : Nat, (t : Int) < e.i.getD 0 0 ∧ kcI (recId x.d t) = k, fun e => (x.d.n - e.i.getD 0 0).toNat, ⟨0, _, rfl, rfl, Int.le_refl _, fun k hk => absurd rfl hk⟩, ?_⟩
      rintro j A33 ⟨hj0, hseen⟩
      simp only [List.getD_cons_zero] at hj0 hseen
      have hrid : shiftF x.d.r0 (Int.toNat (j * 16)) = recId x.d j.toNat := by unfold recId; congr 1; omega
      refine Fork.mk (fun hjn => Need.mk hj0 fun _ => fun _ _ _ => Fork.mk (fun bad => ?_) fun _ => ?_) fun hjn => ?_
      · exfalso
        have hr := dg.recs j.toNat (by omega)
        rcases bad with (q | q) | ⟨q1, q2⟩
        · rw [hrid] at q
          obtain ⟨t, ht, he⟩ := hseen _ q
          exact dg.uniq t j.toNat (by omega) (by omega) (by omega) he
        · omega
        · rcases hr.2 with q | q
          · exact q1 q
          · rcases q2 with q2 | q2 <;> omega
      · refine Need.mk (by have := dg.n1; omega) fun _ => Need.mk (by have := dg.n1; omega) fun _ => ⟨_, _, rfl, rfl, ?_, ?_⟩
        · simp only [List.getD_cons_zero]
          refine ⟨by omega, fun k hk => ?_⟩
          rw [hrid] at hk
          by_cases he : k = kcI (recId x.d j.toNat)
          · exact ⟨j.toNat, by omega, he.symm⟩
          · have hk' : A33 k ≠ 0 := fun q => hk ((if_neg he : updF A33 (kcI (recId x.d j.toNat)) 1 k = A33 k).trans q)
            obtain ⟨t, ht, h2⟩ := hseen k hk'
            exact ⟨t, by omega, h2⟩
        · simp only [List.getD_cons_zero]; omega
      · refine Need.mk (by omega) fun _ => Need.mk (by omega) fun _ => ⟨fun _ => True, fun w Fs o => ⟨?_, trivial⟩, fun _ b19 => ⟨b19, x3 + 1, rfl, rfl, rfl, ?_, ?_⟩⟩
        · have := dev_shut σ hl [mapHP σ.ma [.u8, .u8] true false ([.pointer none]) (fun i => !(σ.s.hasD i == 0)) (mcols [colP 1 σ.s.ptrD])] w Fs
          refine this ?_
          rw [← e1, ← e2]
          exact o
        · simp only [List.getD_cons_zero]; omega
        · simp only [List.getD_cons_zero]; omega
    · -- none
      have hno : ∀ x ∈ σ.ds, x.k ≠ kcD (A1 x3.toNat) (A2 x3.toNat) := fun x hx hk => hdev (by
        have := (hg.wf.d1 x hx).1
        rw [hk] at this
        exact fun q => absurd (this.symm.trans q) (by decide))
      obtain ⟨d1, d2⟩ := hg.wf.d0 _ hno
      have e1 := updF_self d1
      have e2 := updF_self d2
      refine ⟨fun _ => True, fun w Fs o => ⟨?_, trivial⟩, fun _ D l rr => ?_⟩
      · rw [← e1, ← e2] at o
        exact o
      refine Need.mk (by omega) fun _ => Need.mk (by omega) fun _ => ⟨fun _ => True, fun w Fs o => ⟨?_, trivial⟩, fun _ b19 => ⟨b19, x3 + 1, rfl, rfl, rfl, ?_, ?_⟩⟩
      · rw [← e1, ← e2]
        exact o
      · simp only [List.getD_cons_zero]; omega
      · simp only [List.getD_cons_zero]; omega
end Go.RX.So

namespace Go.Proofs.Ytphemenngjkfbaa.specOne
open Go.ChangeShapes Go.WideShapes Go.ChangeAt Go.RowKit

theorem own : ownKnob Try.prog.godebug = none := by kernel_rfl
theorem laidOut : laidOutB Try.prog = true := by kernel_rfl

abbrev lay8 : List (RX.CellK × Nat) := [(some .u8, 8)]
abbrev evLay : List (RX.CellK × Nat) := [(some .u8, 1), (some .u8, 1), (some .u8, 1), (some .u64, 1), (some .u8, 16), (some .u8, 1), (some .u8, 1), (some .u8, 1), (some .u8, 32), (some .u8, 1)]

theorem walk (F0 : Nat → Int) (a1 : Option Addr) (len1 cap1 : Nat) (F : Nat → Nat → Int) (w : World) (w1 : RX.IsTab (RX.layCells evLay) w a1 len1 cap1 F) :
    Calls Try.prog 7 #[.agg (RX.layV lay8 F0).toArray, .slice a1 len1 cap1] w fun e w' => e = .returned (.bool true) ∧ Below w.heap.size w w' := by
  have hacc : ∀ i : Nat, i < len1 → 0 ≤ F i 20 ∧ F i 20 < 256 := by
    intro i hi
    rcases w1 with ⟨_, h, _⟩ | ⟨x, _, hl, _, hc⟩
    · omega
    · have := (hc i hi 20 (some .u8) rfl).2
      simp [RX.cellWf, Lit.wf, IntKind.min, IntKind.max, IntKind.signed, IntKind.bits] at this
      omega
  have hown := RX.owns_lay w1 (by decide) 76
  have := RX.So.law_meets ⟨.slice a1 len1 cap1, rfl⟩ len1 (fun m => F (m / 1) (m % 1)) (fun m => F (m / 1) (1 + m % 1)) (fun m => F (m / 1) (1 + (1 + m % 1))) (fun m => F (m / 1) (1 + (1 + (1 + m % 1)))) (fun m => F (m / 16) (1 + (1 + (1 + (1 + m % 16)))))
    (fun m => F (m / 1) (1 + (1 + (1 + (1 + (16 + m % 1)))))) (fun m => F (m / 1) (1 + (1 + (1 + (1 + (16 + (1 + m % 1))))))) (fun m => F (m / 1) (1 + (1 + (1 + (1 + (16 + (1 + (1 + m % 1)))))))) (fun m => F (m / 32) (1 + (1 + (1 + (1 + (16 + (1 + (1 + (1 + m % 32)))))))))
    (fun m => F (m / 1) (1 + (1 + (1 + (1 + (16 + (1 + (1 + (1 + (32 + m % 1)))))))))) F0 (by omega) (fun i hi => by
      have h := hacc i (by omega)
      rw [Nat.div_one, Nat.mod_one]
      exact h)
  exact this.law w hown

set_option maxRecDepth 100000 in
theorem lifted (os : Os) (started : os.Started) (H : Type) (enc : TypeId × Value → H) :
    ReturnsInHanded {} Try.checked os 7 .any (Rows.specOneSpec.pre6 enc Try.prog Try.f7 Rows.specOneRow.domain false) (Rows.specOneSpec.post enc Try.prog Try.f7 false true false false) := by
  refine returnsInHanded_of_change (C := Try.checked) own started (by kernel_rfl) Try.func7
    (ChangeSpec.witness6 (enc := enc) (C := Try.checked) false ⟨#[], #[.agg (RX.layV lay8 fun _ => 0).toArray, .slice none 0 0], []⟩ 8 (by kernel_rfl) (by kernel_rfl) (by kernel_rfl) (by kernel_rfl)) ?_
  intro W base args ds gs before hval0 hW hcnd _
  have hval : ∀ (j : Nat) t v, Try.f7.params[j]? = some t → args[j]? = some v → Value.okWide Try.prog W .any base t v := hval0
  have hW' := hW
  obtain ⟨p, q, hA0, hV, rfl, hfz, hnd⟩ := hW
  have hA : DataW.TrodAll enc Try.prog W 0 (fun _ => true) true Try.f7.params.toList args.toList ds p := hA0
  rw [Try.params7] at hA hval
  obtain ⟨v0, vs0, d0, ds0, p0, q0, hargs, rfl, rfl, h0, r0⟩ := trodAll_cons hA
  obtain ⟨v1, vs1, d1, ds1, p1, q1, rfl, rfl, rfl, h1, r1⟩ := trodAll_cons r0
  obtain ⟨rfl, rfl, rfl⟩ := trodAll_nil r1
  obtain rfl : args = #[v0, v1] := by cases args; simp_all
  obtain ⟨rfl, rfl⟩ := trodVars_none hV
  obtain ⟨F0, rfl, w0⟩ := RX.open_flat (n := 3) (l := lay8) (by kernel_rfl) (by kernel_rfl) (by kernel_rfl) (hval 0 64 v0 rfl rfl) h0
  obtain ⟨a1, len1, cap1, rfl⟩ := okWide_slice Try.underlying65 (hval 1 65 v1 rfl rfl)
  have lt : ∀ {t v d p}, DataW.Trod enc Try.prog W 0 (fun _ => true) true t v d p → ∀ x ∈ p, x.block < W.heap.size := fun k => by obtain ⟨m, hm⟩ := k; exact DataW.trod_lt m _ _ _ hm
  have k1 := h1
  obtain ⟨F, w1⟩ : ∃ F, RX.IsTab (RX.layCells evLay) W a1 len1 cap1 F := by
    obtain ⟨fuel, hf⟩ := h1
    obtain ⟨a, l, c, F, hcs, hF⟩ := RX.open_tabA (n := 4) (ks := RX.layCells evLay) Try.underlying65 (by kernel_rfl) (by kernel_rfl) hf
    simp [Value.cells] at hcs
    obtain ⟨rfl, rfl, rfl⟩ := hcs
    exact ⟨F, hF⟩
  clear hA0 hval0
  refine (walk F0 a1 len1 cap1 F W w1).mono fun e W' ⟨he, bel⟩ => ?_
  subst he
  exact ⟨_, rfl, _, _, _, [], _, [], hW', trodAll_mk1 (shut_bool Try.underlying4 _), (trodAll_cons_mk (Below.trod laidOut (by kernel_rfl) (of_decide_eq_true (by kernel_rfl)) h0 bel (lt h0)) (trodAll_cons_mk (Below.trod laidOut (by kernel_rfl) (of_decide_eq_true (by kernel_rfl)) k1 bel (lt k1)) trodAll_mk0)), rfl, bel.frame _, fun h => by cases h⟩

theorem over : Rows.specOneRow.holds Try.pinned (OpenSpec.ofChange Rows.specOneSpec) :=
  OpenClaim.holds_of_wide 7 Try.f7 rfl rfl rfl rfl rfl rfl rfl ⟨rfl, rfl, rfl, rfl, rfl⟩ rfl rfl rfl rfl rfl (by kernel_rfl) Try.func7 (by kernel_rfl)
    (of_decide_eq_true (by kernel_rfl)) (by unfold Func.isWrapper; first | (rw [if_pos (by decide +kernel)]; kernel_rfl) | (rw [if_neg (by decide +kernel)]; exact ⟨rfl, rfl⟩))
    (fun os started H enc _ => lifted os started H enc)

theorem proved : Rows.SpecOneSaid := over
#print axioms proved
end Go.Proofs.Ytphemenngjkfbaa.specOne
