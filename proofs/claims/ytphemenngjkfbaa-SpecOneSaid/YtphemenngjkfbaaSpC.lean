/- SpecOne: what Step does with a call that was dialled, in memory that lies open; printed by a program of ours (wip/tools). -/
import Derived.Test.YtphemenngjkfbaaRxZg
import Derived.Test.YtphemenngjkfbaaSpA
import Derived.Test.YtphemenngjkfbaaSpB

namespace Go.RX.So

structure Ev where
  kind : Int
  da : Int
  dd : Int
  at_ : Int
  id : Nat → Int
  acc : Int
  pa : Int
  pd : Int
  key : Nat → Int
  oc : Int
/-- A device: its state, its call; what it had; its records. -/
structure Dv where
  st : Int
  id : Nat → Int
  out : Int
  acc : Int
  pa : Int
  pd : Int
  began : Int
  answered : Int
  had : Nat → Int
  n : Int
  r0 : Nat → Int
  r1 : Nat → Int
  r2 : Nat → Int
  r3 : Nat → Int
  r4 : Nat → Int
  r5 : Nat → Int
  r6 : Nat → Int
structure Cl where
  ca : Int
  cd : Int
  acc : Int
  n : Int
  j0 : Nat → Int
  j1 : Nat → Int
  declined : Bool
  took : Bool
  aa : Int
  ad : Int
  known : Bool
  print : Nat → Int
structure Sy where
  dv : Nat → Int
  last : Int
  hasC : Nat → Int
  ptrC : Nat → Int
  hasD : Nat → Int
  ptrD : Nat → Int

abbrev kcI (id : Nat → Int) : Nat := kcode ((List.range 16).map id)
abbrev kcD (a d : Int) : Nat := kcode ((List.range 2).map (updF (updF (fun _ => 0) 0 a) 1 d))
def Ev.bare (e : Ev) : Prop := (((e.kind = 3 ∨ e.kind = 4) ∨ (e.pa = 0 ∧ e.pd = 0)) ∧ (e.kind = 4 ∨ ∀ j, j < 32 → e.key j = 0)) ∧ (e.kind = 5 ∨ e.oc = 0)
def Cl.has (c : Cl) (a d : Int) : Prop := ∃ j : Nat, j < c.n.toNat ∧ c.j0 j = a ∧ c.j1 j = d

/-- A device begins a call. -/
def Dv.begins (d : Dv) (e : Ev) (st : Int) : Dv :=
  { d with st := st, id := e.id, out := if st = 1 then 1 else 0, acc := e.acc, began := e.at_, answered := 0, pa := 0, pd := 0, had := updF d.had (kcI e.id) 1 }
def Dv.connects (d : Dv) (e : Ev) : Dv := { d with st := 3, pa := e.pa, pd := e.pd }
def Cl.elsewhere (c : Cl) (e : Ev) : Prop := c.took = true ∧ ¬ (c.aa = e.da ∧ c.ad = e.dd)
/-- May it end so? -/
def endOk (e : Ev) (d : Dv) (c : Cl) : Prop :=
  if d.st = 1 then ((e.oc = 3 ∨ e.oc = 5) ∨ e.oc = 7) ∨ (e.oc = 4 ∧ c.declined = true) else
  if d.st = 2 then (e.oc = 3 ∨ e.oc = 4) ∨ (e.oc = 2 ∧ c.elsewhere e) else
  if d.st = 3 then (e.oc = 6 ∨ e.oc = 7) ∨ ((e.oc = 2 ∧ c.elsewhere e) ∧ ¬ d.out ≠ 0) else
  if d.st = 4 then e.oc = 1 else False
def Cl.ends (c : Cl) (e : Ev) (d : Dv) : Cl := { c with declined := c.declined || ((e.oc == 4) && (!(!(d.out == 0)))) }
/-- One number put behind a column, as an append of a row does it. -/
def put1 (f : Nat → Int) (n x : Int) : Nat → Int := splF f (Int.toNat n) 1 (updF (fun _ => 0) 0 x)
def Dv.ends (d : Dv) (e : Ev) : Dv :=
  { d with st := 0, n := d.n + 1, r0 := splF d.r0 (Int.toNat (d.n * 16)) 16 (splF (fun _ => 0) 0 16 d.id), r1 := put1 d.r1 d.n d.acc, r2 := put1 d.r2 d.n d.out, r3 := put1 d.r3 d.n e.oc, r4 := put1 d.r4 d.n d.began, r5 := put1 d.r5 d.n d.answered, r6 := put1 d.r6 d.n e.at_ }
/-- Who is active is the answerer, or talks with it. -/
def activeOk (e : Ev) (d : Dv) (c : Cl) : Prop :=
  if d.out ≠ 0 then ¬ (((((¬ d.st = 3) ∨ (¬ (d.pa = e.pa ∧ d.pd = e.pd))) ∨ (¬ c.took = true)) ∨ (¬ (c.aa = e.pa ∧ c.ad = e.pd))) ∨ (c.known = true ∧ ¬ ∀ j, j < 32 → c.print j = e.key j))
  else ¬ (((((¬ d.st = 3) ∨ (¬ (d.pa = e.pa ∧ d.pd = e.pd))) ∨ (¬ c.took = true)) ∨ (¬ (c.aa = e.da ∧ c.ad = e.dd))) ∨ (c.known = true ∧ ¬ ∀ j, j < 32 → c.print j = e.key j))
def Dv.active (d : Dv) (e : Ev) : Dv := { d with st := 4, answered := e.at_ }
def Cl.active (c : Cl) (e : Ev) : Cl := { c with known := true, print := e.key }
def Cl.takes (c : Cl) (e : Ev) : Cl := { c with took := true, aa := e.pa, ad := e.pd }
def Cl.joins (c : Cl) (e : Ev) : Cl := { c with n := c.n + 1, j0 := updF c.j0 c.n.toNat e.da, j1 := updF c.j1 c.n.toNat e.dd }
def Cl.new (e : Ev) : Cl := { ca := e.da, cd := e.dd, acc := e.acc, n := 0, j0 := fun _ => 0, j1 := fun _ => 0, declined := false, took := false, aa := 0, ad := 0, known := false, print := fun _ => 0 }

open Classical in
/-- An event of a device, of a call that was dialled. -/
noncomputable def step1 (e : Ev) (last : Int) (d : Dv) (c : Cl) : Option (Dv × Cl) :=
  if e.at_ < last then none else
  if ¬ e.bare then none else
  if e.kind = 1 then none else
  if e.kind = 2 then (if ((¬ d.st = 0 ∨ d.had (kcI e.id) ≠ 0) ∨ ¬ c.acc = e.da) ∨ ¬ c.ca = e.acc then none else some (d.begins e 2, c)) else
  if (d.st = 0 ∨ ¬ ∀ j, j < 16 → d.id j = e.id j) ∨ ¬ d.acc = e.acc then none else
  if e.kind = 3 then
    (if (d.st = 1 ∧ ¬ c.took = true) ∧ c.has e.pa e.pd then some (d.connects e, c.takes e) else
     if d.st = 2 ∧ e.pa = c.ca ∧ e.pd = c.cd then some (d.connects e, c.joins e) else none) else
  if e.kind = 4 then (if activeOk e d c then some (d.active e, c.active e) else none) else
  if e.kind = 5 then (if endOk e d c then some (d.ends e, c.ends e d) else none) else none
open Classical in
/-- An event of a device, of a call that was not dialled: it may be dialled. -/
noncomputable def step0 (e : Ev) (dv : Nat → Int) (last : Int) (d : Dv) : Option Dv :=
  if e.at_ < last then none else
  if ¬ e.bare then none else
  if e.kind = 1 ∧ d.st = 0 ∧ (e.acc < 8 ∧ 0 < dv e.acc.toNat ∧ dv e.acc.toNat ≤ 4) ∧ ¬ e.acc = e.da then some (d.begins e 1) else none

/-! ### in memory -/
def Ev.val (e : Ev) : Value := .agg (.int .u8 e.kind :: (.int .u8 e.da :: (.int .u8 e.dd :: (.int .u64 e.at_ :: (segCells .u8 16 e.id ++ (.int .u8 e.acc :: (.int .u8 e.pa :: (.int .u8 e.pd :: (segCells .u8 32 e.key ++ ([.int .u8 e.oc])))))))))).toArray
abbrev K16 : List IntKind := [.u8, .u8, .u8, .u8, .u8, .u8, .u8, .u8, .u8, .u8, .u8, .u8, .u8, .u8, .u8, .u8]
def devHPs (b h : Nat) (v : V1) (d : Dv) : List HP :=
  [rowHP b true (.int .u8 d.st :: (segCells .u8 16 d.id ++ ([.bool (!(d.out == 0)), .int .u8 d.acc, .int .u8 d.pa, .int .u8 d.pd, .int .u64 d.began, .int .u64 d.answered, .map (some h), v.v]))),
   mapHP h K16 true true ([]) (fun i => !(d.had i == 0)) (mcols []),
   sliHP true 85 22 v.v (Int.toNat d.n) (tabL (Int.toNat d.n) [colI .u8 16 d.r0, colI .u8 1 d.r1, colB 1 d.r2, colI .u8 1 d.r3, colI .u64 1 d.r4, colI .u64 1 d.r5, colI .u64 1 d.r6])]
def callHPs (b : Nat) (v : V1) (c : Cl) : List HP :=
  [rowHP b true (.int .u8 c.ca :: (.int .u8 c.cd :: (.int .u8 c.acc :: (v.v :: (.bool c.declined :: (.bool c.took :: (.int .u8 c.aa :: (.int .u8 c.ad :: (.bool c.known :: (segCells .u8 32 c.print ++ ([]))))))))))),
   sliHP true 30 2 v.v (Int.toNat c.n) (tabL (Int.toNat c.n) [colI .u8 1 c.j0, colI .u8 1 c.j1])]
def sysHPs (b mc ma : Nat) (s : Sy) : List HP :=
  [rowHP b true (segCells .u8 8 s.dv ++ ([.map (some mc), .map (some ma), .int .u64 s.last])),
   mapHP mc K16 true false ([.pointer none]) (fun i => !(s.hasC i == 0)) (mcols [colP 1 s.ptrC]),
   mapHP ma [.u8, .u8] true false ([.pointer none]) (fun i => !(s.hasD i == 0)) (mcols [colP 1 s.ptrD])]
theorem updF_self {f : Nat → Int} {i : Nat} {x : Int} (h : f i = x) : updF f i x = f := by
  funext j
  unfold updF
  split
  · rename_i e; rw [e, h]
  · rfl
end Go.RX.So

namespace Go.RX.So
open Go.RX Go.Proofs

theorem Fork.mk {c t e : Prop} (h1 : c → t) (h2 : ¬ c → e) : Fork c t e := ⟨h1, h2⟩
theorem Need.mk {b r : Prop} (h1 : b) (h2 : b → r) : Need b r := ⟨h1, h2⟩

/-- An owned slice of nothing. -/
theorem Ent.owned0 (a : List HP) (t s : Nat) : Ent a (a ++ [sliHP true t s (.slice none 0 0) 0 []]) := by
  intro w Fs ⟨S, hS⟩
  have hn : (sliHP true t s (.slice none 0 0) 0 []).p w fun _ => False := ⟨by simpa using ownsAt_nil w t s, fun k => by simp [Value.ownBlock]⟩
  refine ⟨fun i => if i < a.length then S i else if i = a.length then fun _ => False else S (i - 1), ⟨?_, ?_⟩⟩
  · intro i h hi
    by_cases h1 : i < a.length
    · rw [List.append_assoc, List.getElem?_append_left h1] at hi
      simp only [h1, if_true]
      exact hS.at_ i h (by rw [List.getElem?_append_left h1]; exact hi)
    · rw [List.append_assoc, List.getElem?_append_right (by omega)] at hi
      by_cases h2 : i = a.length
      · subst h2
        simp at hi
        subst hi
        simp only [Nat.lt_irrefl, if_false, if_true]
        exact ⟨hn, fun _ h => h.elim⟩
      · have e : i - a.length = (i - a.length - 1) + 1 := by omega
        rw [e] at hi
        simp only [h1, h2, if_false]
        have hi' : Fs[i - a.length - 1]? = some h := by simpa using hi
        have := hS.at_ (i - 1) h (by rw [List.getElem?_append_right (by omega), show i - 1 - a.length = i - a.length - 1 by omega]; exact hi')
        exact this
  · intro i j x y hne hi hj hw k
    have key : ∀ (i : Nat) (x : HP), (a ++ [sliHP true t s (.slice none 0 0) 0 []] ++ Fs)[i]? = some x → i ≠ a.length → (a ++ Fs)[if i < a.length then i else i - 1]? = some x := by
      intro i x hi h2
      by_cases h1 : i < a.length
      · rw [List.append_assoc, List.getElem?_append_left h1] at hi
        simp only [h1, if_true]
        rw [List.getElem?_append_left h1]; exact hi
      · rw [List.append_assoc, List.getElem?_append_right (by omega)] at hi
        have e : i - a.length = (i - a.length - 1) + 1 := by omega
        rw [e] at hi
        simp only [h1, if_false]
        rw [List.getElem?_append_right (by omega), show i - 1 - a.length = i - a.length - 1 by omega]
        simpa using hi
    by_cases hia : i = a.length
    · subst hia
      intro hk
      simp at hk
    · by_cases hja : j = a.length
      · subst hja
        intro _ hk
        simp at hk
      · have q1 := key i x hi hia
        have q2 := key j y hj hja
        have e1 : (if i < a.length then S i else if i = a.length then fun _ => False else S (i - 1)) = S (if i < a.length then i else i - 1) := by split <;> simp [hia]
        have e2 : (if j < a.length then S j else if j = a.length then fun _ => False else S (j - 1)) = S (if j < a.length then j else j - 1) := by split <;> simp [hja]
        rw [e1, e2]
        refine hS.apart _ _ x y ?_ q1 q2 hw k
        split <;> split <;> omega

def nilS : V1 := ⟨.slice none 0 0, rfl⟩
def Sy.setD (s : Sy) (e : Ev) (has ptr : Int) : Sy := { s with hasD := updF s.hasD (kcD e.da e.dd) has, ptrD := updF s.ptrD (kcD e.da e.dd) ptr }
def Sy.setC (s : Sy) (e : Ev) (has ptr : Int) : Sy := { s with hasC := updF s.hasC (kcI e.id) has, ptrC := updF s.ptrC (kcI e.id) ptr }
theorem Sy.setD_self {s : Sy} {e : Ev} {x y : Int} (h1 : s.hasD (kcD e.da e.dd) = x) (h2 : s.ptrD (kcD e.da e.dd) = y) : s.setD e x y = s := by
  unfold Sy.setD; rw [updF_self h1, updF_self h2]
theorem Sy.setC_self {s : Sy} {e : Ev} {x y : Int} (h1 : s.hasC (kcI e.id) = x) (h2 : s.ptrC (kcI e.id) = y) : s.setC e x y = s := by
  unfold Sy.setC; rw [updF_self h1, updF_self h2]

def envS (b mc ma bd bh bc : Nat) (v v1 : V1) (s : Sy) (e : Ev) (d : Dv) (c : Cl) : Env :=
  { iv := [e.kind, e.da, e.dd, e.at_, e.acc, e.pa, e.pd, e.oc, s.last, d.st, d.acc, d.pa, d.pd, d.began, d.answered, d.n, c.ca, c.cd, c.acc, c.n, c.aa, c.ad, d.out],
    av := [e.id, e.key, s.dv, d.id, d.had, d.r0, d.r1, d.r2, d.r3, d.r4, d.r5, d.r6, c.j0, c.j1, c.print, s.hasC, s.ptrC, s.hasD, s.ptrD],
    bo := [false, c.declined, c.took, c.known], bv := [b, mc, ma, bd, bh, bc], vv := [v, v1] }
def dv0 : Dv := ⟨0, fun _ => 0, 0, 0, 0, 0, 0, 0, fun _ => 0, 0, fun _ => 0, fun _ => 0, fun _ => 0, fun _ => 0, fun _ => 0, fun _ => 0, fun _ => 0⟩
def cl0 : Cl := ⟨0, 0, 0, 0, fun _ => 0, fun _ => 0, false, false, 0, 0, false, fun _ => 0⟩

theorem stepN_meets (b mc ma : Nat) (s : Sy) (e : Ev) (h1 : s.hasD (kcD e.da e.dd) = 0) (h2 : s.ptrD (kcD e.da e.dd) = 0) :
    Meets Try.prog 36 [.pointer (some ⟨b, 0, none⟩), e.val] (sysHPs b mc ma s) (fun r hs => r = .int .i64 6 ∧ hs = sysHPs b mc ma s) := by
  have es := Sy.setD_self h1 h2
  refine Meets.post (p := fun r hs => ∃ hs', Ent hs hs' ∧ r = .int .i64 6 ∧ hs' = sysHPs b mc ma s) ?_ fun v hs ⟨hs', q1, q2, q3⟩ => ⟨hs', q1, q2, q3⟩
  have key := Meets.of_runE (C := cx) (args := [.ptr 0 0, evV]) (hp := hpN) (cnt := cnt1) (ρ := envS b mc ma 0 0 0 V1.nil V1.nil s e dv0 cl0) okT okFT okM Try.func36 (by constructor <;> rfl) run_stepN
    (vc_stepN Try.prog (fun r hs => ∃ hs', Ent hs hs' ∧ r = .int .i64 6 ∧ hs' = sysHPs b mc ma (s.setD e 0 0)) _ _ _ _ _ _ _ _ _ _ _ _ _ _ _ _ _ _ _ _ _ _ _ _ _ _ _ _ _ _ _ _ _ _ _ _ _ _ _ _ _ _ _ _ _ _ _ _ _ _ _ _ _ _ _) (by
      unfold st_stepN
      intros
      exact ⟨_, Ent.sub (List.sublist_append_left (sysHPs b mc ma (s.setD e 0 0)) _), rfl, rfl⟩)
  rw [show hpN.map (Ck.den (envS b mc ma 0 0 0 V1.nil V1.nil s e dv0 cl0)) = sysHPs b mc ma (s.setD e 0 0) from rfl, es] at key
  exact key

def Post0 (b mc ma bd bh : Nat) (v : V1) (s : Sy) (e : Ev) (d : Dv) (r : Value) (hs : List HP) : Prop :=
  (r = .int .i64 6 ∧ step0 e s.dv s.last d = none ∧ hs = sysHPs b mc ma s ++ devHPs bd bh v d) ∨
  (r = .int .i64 0 ∧ ∃ d' bc v1, step0 e s.dv s.last d = some d' ∧ hs = sysHPs b mc ma { s.setC e 1 ((bc : Nat) + 1) with last := e.at_ } ++ devHPs bd bh v d' ++ callHPs bc v1 (Cl.new e))
theorem updF_updF {f : Nat → Int} {i : Nat} {x y : Int} : updF (updF f i x) i y = updF f i y := by
  funext j; unfold updF; split <;> rfl

theorem step0_meets (b mc ma bd bh : Nat) (v : V1) (s : Sy) (e : Ev) (d : Dv) (h1 : s.hasD (kcD e.da e.dd) = 1) (h2 : s.ptrD (kcD e.da e.dd) = (bd : Nat) + 1) (h3 : s.hasC (kcI e.id) = 0) (h4 : s.ptrC (kcI e.id) = 0) (ha : 0 ≤ e.acc) (hb : e.acc < 256) :
    Meets Try.prog 36 [.pointer (some ⟨b, 0, none⟩), e.val] (sysHPs b mc ma s ++ devHPs bd bh v d) (Post0 b mc ma bd bh v s e d) := by
  have es : (s.setD e 1 ((bd : Nat) + 1)).setC e 0 0 = s := by rw [Sy.setD_self h1 h2]; exact Sy.setC_self h3 h4
  generalize hs1 : (s.setD e 1 ((bd : Nat) + 1)).setC e 0 0 = s1 at es
  have key := Meets.of_runE (C := cx) (args := [.ptr 0 0, evV]) (hp := hp0) (cnt := cnt1) (ρ := envS b mc ma bd bh 0 v V1.nil s e d cl0) okT okFT okM Try.func36 (by constructor <;> rfl) run_step0
    (vc_step0 Try.prog (fun r hs => ∃ hs', Ent hs hs' ∧ Post0 b mc ma bd bh v s e d r hs') _ _ _ _ _ _ _ _ _ _ _ _ _ _ _ _ _ _ _ _ _ _ _ _ _ _ _ _ _ _ _ _ _ _ _ _ _ _ _ _ _ _ _ _ _ _ _ _ _ _ _ _ _ _ _) (by
      unfold st_step0
      have n6 : ∀ {x : List HP}, step0 e s.dv s.last d = none → (x = sysHPs b mc ma s1 ++ devHPs bd bh v d) → ∀ y, ∃ hs', Ent (x ++ y) hs' ∧ Post0 b mc ma bd bh v s e d (.int .i64 6) hs' := by
        intro x h hx y
        subst hx
        exact ⟨_, Ent.sub (List.sublist_append_left _ _), .inl ⟨rfl, h, by rw [es]⟩⟩
      subst hs1
      refine fun _ => Fork.mk (fun q1 => ?_) fun q1 => ?_
      · refine fun _ => Fork.mk (fun q2 => ?_) fun q2 => ?_
        · refine fun _ => Fork.mk (fun q3 => ?_) fun q3 => ?_
          · refine Fork.mk (fun q4 => ?_) fun q4 => ?_
            · repeat refine Need.mk (by omega) fun _ => ?_
              refine Fork.mk (fun q5 => ?_) fun q5 => ?_
              · refine n6 ?_ rfl _
                rw [step0, if_neg q1, if_neg (Classical.not_not.2 (show e.bare from q2)), if_neg (fun h => q5.elim (fun k => k ⟨⟨h.2.2.1.1, h.2.2.1.2.1⟩, h.2.2.1.2.2⟩) h.2.2.2)]
              · intro b9 b10
                have q6 := not_or.1 q5
                have q7 := Classical.not_not.1 q6.1
                refine ⟨sysHPs b mc ma { ((s.setD e 1 ((bd : Nat) + 1)).setC e 0 0).setC e 1 ((b9 : Nat) + 1) with last := e.at_ } ++ devHPs bd bh v (d.begins e 1) ++ callHPs b9 nilS (Cl.new e), Ent.trans (Ent.owned0 _ 30 2) (Ent.sub ?_), .inr ⟨rfl, d.begins e 1, b9, nilS, ?_, by rw [es]⟩⟩
                · repeat first | exact List.Sublist.slnil | refine List.Sublist.cons_cons _ ?_ | refine List.Sublist.cons _ ?_
                · rw [step0, if_neg q1, if_neg (Classical.not_not.2 (show e.bare from q2)), if_pos ⟨q3, q4, ⟨q7.1.1, q7.1.2, q7.2⟩, q6.2⟩]
            · refine n6 ?_ rfl _
              rw [step0, if_neg q1, if_neg (Classical.not_not.2 (show e.bare from q2)), if_neg (fun h => q4 h.2.1)]
          · refine n6 ?_ rfl _
            rw [step0, if_neg q1, if_neg (Classical.not_not.2 (show e.bare from q2)), if_neg (fun h => q3 h.1)]
        · refine n6 ?_ rfl _
          rw [step0, if_neg q1, if_pos (show ¬ e.bare from q2)]
      · refine n6 ?_ rfl _
        rw [step0, if_pos (Classical.not_not.1 q1)])
  have pre : hp0.map (Ck.den (envS b mc ma bd bh 0 v V1.nil s e d cl0)) = sysHPs b mc ma ((s.setD e 1 ((bd : Nat) + 1)).setC e 0 0) ++ devHPs bd bh v d := rfl
  rw [pre, hs1, es] at key
  exact key.post fun _ _ h => h
end Go.RX.So

namespace Go.RX.So
open Go.RX Go.Proofs

theorem index_meets (v : V1) (n a d : Int) (A0 A1 : Nat → Int) (h0 : 0 ≤ n) (h1 : n ≤ 9223372036854775807) :
    Meets Try.prog 138 [v.v, .agg #[.int .u8 a, .int .u8 d]] [sliHP true 30 2 v.v n.toNat (tabL n.toNat [colI .u8 1 A0, colI .u8 1 A1])]
      (fun r hs => ∃ k : Int, r = .int .i64 k ∧ hs = [sliHP true 30 2 v.v n.toNat (tabL n.toNat [colI .u8 1 A0, colI .u8 1 A1])] ∧ (0 ≤ k ↔ ∃ j : Nat, j < n.toNat ∧ A0 j = a ∧ A1 j = d)) := by
  refine Meets.post (p := fun r hs => ∃ hs', Ent hs hs' ∧ ∃ k : Int, r = .int .i64 k ∧ hs' = [sliHP true 30 2 v.v n.toNat (tabL n.toNat [colI .u8 1 A0, colI .u8 1 A1])] ∧ (0 ≤ k ↔ ∃ j : Nat, j < n.toNat ∧ A0 j = a ∧ A1 j = d)) ?_ fun v hs h => h
  refine Meets.of_runE (C := cx) (args := [.vv 0, .agg [So.u8 0, So.u8 1]]) (hp := [.sli true 0 30 2 (.var 2) [⟨.int .u8, 1, .avar 0⟩, ⟨.int .u8, 1, .avar 1⟩]]) (cnt := { i := 3, a := 2, v := 1 }) (ρ := { iv := [a, d, n], av := [A0, A1], vv := [v] }) okT okFT okM Try.func138 (by constructor <;> rfl) run_index (vc_index Try.prog _ a d n A0 A1 v _) ?_
  unfold st_index
  refine fun b0 => Need.mk h0 fun _ => ⟨fun e => 0 ≤ e.i.getD 0 0 ∧ ∀ j : Nat, j < (e.i.getD 0 0).toNat → ¬ (A0 j = a ∧ A1 j = d), fun e => (n - e.i.getD 0 0).toNat, ⟨0, rfl, by simp⟩, ?_⟩
  rintro i ⟨hi0, hi1⟩
  simp only [List.getD_cons_zero] at hi0 hi1
  refine Fork.mk (fun hlt => Need.mk hi0 fun _ => Fork.mk (fun he => ?_) fun hne => ?_) fun hge => ?_
  · exact ⟨_, Ent.sub (List.Sublist.cons_cons _ (List.Sublist.cons _ List.Sublist.slnil)), i, rfl, rfl, ⟨fun _ => ⟨i.toNat, by omega, he.1.symm, he.2.symm⟩, fun _ => hi0⟩⟩
  · refine Need.mk (by omega) fun _ => Need.mk (by omega) fun _ => ⟨_, rfl, ?_, ?_⟩
    · simp only [List.getD_cons_zero]
      refine ⟨by omega, fun j hj hh => ?_⟩
      by_cases hji : j = i.toNat
      · subst hji; exact hne ⟨hh.1.symm, hh.2.symm⟩
      · exact hi1 j (by omega) hh
    · simp only [List.getD_cons_zero]; omega
  · exact ⟨_, Ent.sub (List.Sublist.cons_cons _ (List.Sublist.cons _ List.Sublist.slnil)), -1, rfl, rfl, ⟨fun h => absurd h (by decide), fun ⟨j, h1, h2⟩ => absurd h2 (hi1 j (by omega))⟩⟩

theorem contains_meets (v : V1) (n a d : Int) (A0 A1 : Nat → Int) (h0 : 0 ≤ n) (h1 : n ≤ 9223372036854775807) :
    Meets Try.prog 122 [v.v, .agg #[.int .u8 a, .int .u8 d]] [sliHP true 30 2 v.v n.toNat (tabL n.toNat [colI .u8 1 A0, colI .u8 1 A1])]
      (fun r hs => ∃ q : Bool, r = .bool q ∧ hs = [sliHP true 30 2 v.v n.toNat (tabL n.toNat [colI .u8 1 A0, colI .u8 1 A1])] ∧ (q = true ↔ ∃ j : Nat, j < n.toNat ∧ A0 j = a ∧ A1 j = d)) := by
  refine Meets.post (p := fun r hs => ∃ hs', Ent hs hs' ∧ ∃ q : Bool, r = .bool q ∧ hs' = [sliHP true 30 2 v.v n.toNat (tabL n.toNat [colI .u8 1 A0, colI .u8 1 A1])] ∧ (q = true ↔ ∃ j : Nat, j < n.toNat ∧ A0 j = a ∧ A1 j = d)) ?_ fun v hs h => h
  refine Meets.of_runE (C := cx) (args := [.vv 0, .agg [So.u8 0, So.u8 1]]) (hp := [.sli true 0 30 2 (.var 2) [⟨.int .u8, 1, .avar 0⟩, ⟨.int .u8, 1, .avar 1⟩]]) (cnt := { i := 3, a := 2, v := 1 }) (ρ := { iv := [a, d, n], av := [A0, A1], vv := [v] }) okT okFT okM Try.func122 (by constructor <;> rfl) run_contains (vc_contains Try.prog _ a d n A0 A1 v _) ?_
  unfold st_contains
  refine fun b0 => ⟨_, index_meets v n a d A0 A1 h0 h1, ?_⟩
  rintro r hs ⟨k, rfl, rfl, hk⟩
  exact ⟨k, rfl, rfl, _, Ent.sub (List.Sublist.cons_cons _ (List.Sublist.cons _ List.Sublist.slnil)), _, rfl, rfl, by rw [decide_eq_true_iff]; exact hk⟩

def Post1 (b mc ma bd bh bc : Nat) (v v1 : V1) (s : Sy) (e : Ev) (d : Dv) (c : Cl) (r : Value) (hs : List HP) : Prop :=
  (r = .int .i64 6 ∧ step1 e s.last d c = none ∧ hs = sysHPs b mc ma s ++ devHPs bd bh v d ++ callHPs bc v1 c) ∨
  (r = .int .i64 0 ∧ ∃ d' c' w w1, step1 e s.last d c = some (d', c') ∧ hs = sysHPs b mc ma { s with last := e.at_ } ++ devHPs bd bh w d' ++ callHPs bc w1 c')

theorem step1_meets (b mc ma bd bh bc : Nat) (v v1 : V1) (s : Sy) (e : Ev) (d : Dv) (c : Cl) (h1 : s.hasD (kcD e.da e.dd) = 1) (h2 : s.ptrD (kcD e.da e.dd) = (bd : Nat) + 1) (h3 : s.hasC (kcI e.id) = 1) (h4 : s.ptrC (kcI e.id) = (bc : Nat) + 1)
    (hn0 : 0 ≤ d.n) (hn1 : d.n ≤ 1000000) (hc0 : 0 ≤ c.n) (hc1 : c.n ≤ 1000000) :
    Meets Try.prog 36 [.pointer (some ⟨b, 0, none⟩), e.val] (sysHPs b mc ma s ++ devHPs bd bh v d ++ callHPs bc v1 c) (Post1 b mc ma bd bh bc v v1 s e d c) := by
  have es : (s.setD e 1 ((bd : Nat) + 1)).setC e 1 ((bc : Nat) + 1) = s := by rw [Sy.setD_self h1 h2]; exact Sy.setC_self h3 h4
  generalize hs1 : (s.setD e 1 ((bd : Nat) + 1)).setC e 1 ((bc : Nat) + 1) = s1 at es
  have key := Meets.of_runE (C := cx) (args := [.ptr 0 0, evV]) (hp := hp1) (cnt := cnt1) (ρ := envS b mc ma bd bh bc v v1 s e d c) okT okFT okM Try.func36 (by constructor <;> rfl) run_step1
    (vc_step1 Try.prog (fun r hs => ∃ hs', Ent hs hs' ∧ Post1 b mc ma bd bh bc v v1 s e d c r hs') _ _ _ _ _ _ _ _ _ _ _ _ _ _ _ _ _ _ _ _ _ _ _ _ _ _ _ _ _ _ _ _ _ _ _ _ _ _ _ _ _ _ _ _ _ _ _ _ _ _ _ _ _ _ _) (by
      unfold st_step1
      have n6 : ∀ {x : List HP}, step1 e s.last d c = none → (x = sysHPs b mc ma s1 ++ devHPs bd bh v d ++ callHPs bc v1 c) → ∀ y, ∃ hs', Ent (x ++ y) hs' ∧ Post1 b mc ma bd bh bc v v1 s e d c (.int .i64 6) hs' := by
        intro x h hx y
        subst hx
        exact ⟨_, Ent.sub (List.sublist_append_left _ _), .inl ⟨rfl, h, by rw [es]⟩⟩
      have ok0 : ∀ {x : List HP} (d' : Dv) (c' : Cl) (w w1 : V1), step1 e s.last d c = some (d', c') → (x = sysHPs b mc ma { s1 with last := e.at_ } ++ devHPs bd bh w d' ++ callHPs bc w1 c') → ∀ y, ∃ hs', Ent (x ++ y) hs' ∧ Post1 b mc ma bd bh bc v v1 s e d c (.int .i64 0) hs' := by
        intro x d' c' w w1 h hx y
        subst hx
        exact ⟨_, Ent.sub (List.sublist_append_left _ _), .inr ⟨rfl, d', c', w, w1, h, by rw [es]⟩⟩
      subst hs1
      refine fun _ => Fork.mk (fun q1 => ?_) fun q1 => ?_
      · refine fun _ => Fork.mk (fun q2 => ?_) fun q2 => ?_
        · refine fun _ => Fork.mk (fun k1 => ?_) fun k1 => ?_
          · refine Fork.mk (fun q => absurd (Or.inr rfl) q) fun _ => ?_
            refine n6 ?_ rfl _
            rw [step1, if_neg q1, if_neg (Classical.not_not.2 (show e.bare from q2)), if_pos k1]
          · refine Fork.mk (fun k2 => ?_) fun k2 => ?_
            · refine fun _ => Fork.mk (fun q4 => ?_) fun q4 => ?_
              · refine n6 ?_ rfl _
                rw [step1, if_neg q1, if_neg (Classical.not_not.2 (show e.bare from q2)), if_neg k1, if_pos k2, if_pos (show ((¬ d.st = 0 ∨ d.had (kcI e.id) ≠ 0) ∨ ¬ c.acc = e.da) ∨ ¬ c.ca = e.acc from q4)]
              · intro b10
                refine ok0 (d.begins e 2) (c) v v1 ?_ rfl _
                rw [step1, if_neg q1, if_neg (Classical.not_not.2 (show e.bare from q2)), if_neg k1, if_pos k2, if_neg (show ¬ (((¬ d.st = 0 ∨ d.had (kcI e.id) ≠ 0) ∨ ¬ c.acc = e.da) ∨ ¬ c.ca = e.acc) from q4)]
            · refine Fork.mk (fun q5 => ?_) fun q5 => ?_
              · refine n6 ?_ rfl _
                rw [step1, if_neg q1, if_neg (Classical.not_not.2 (show e.bare from q2)), if_neg k1, if_neg k2, if_pos q5]
              · refine Fork.mk (fun k3 => ?_) fun k3 => ?_
                · refine fun _ => Fork.mk (fun q6 => ?_) fun q6 => ?_
                  · refine ⟨_, contains_meets v1 c.n e.pa e.pd c.j0 c.j1 hc0 (by omega), ?_⟩
                    rintro r hs ⟨q, rfl, rfl, hq⟩
                    refine ⟨q, rfl, rfl, Fork.mk (fun q7 => ?_) fun q7 => ?_⟩
                    · refine ok0 (d.connects e) (c.takes e) v v1 ?_ rfl _
                      rw [step1, if_neg q1, if_neg (Classical.not_not.2 (show e.bare from q2)), if_neg k1, if_neg k2, if_neg q5, if_pos k3, if_pos ⟨q6, hq.1 q7⟩]
                    · refine Fork.mk (fun q8 => absurd (q6.1.symm.trans q8.1) (by decide)) fun q8 => ?_
                      refine n6 ?_ rfl _
                      rw [step1, if_neg q1, if_neg (Classical.not_not.2 (show e.bare from q2)), if_neg k1, if_neg k2, if_neg q5, if_pos k3, if_neg (fun h => q7 (hq.2 h.2)), if_neg q8]
                  · refine Fork.mk (fun q8 => ?_) fun q8 => ?_
                    · refine fun _ => Need.mk hc0 fun _ => Need.mk (by omega) fun _ => fun v2 => ?_
                      refine ok0 (d.connects e) (c.joins e) v v2 ?_ rfl _
                      rw [step1, if_neg q1, if_neg (Classical.not_not.2 (show e.bare from q2)), if_neg k1, if_neg k2, if_neg q5, if_pos k3, if_neg (fun h => q6 h.1), if_pos q8]
                    · refine n6 ?_ rfl _
                      rw [step1, if_neg q1, if_neg (Classical.not_not.2 (show e.bare from q2)), if_neg k1, if_neg k2, if_neg q5, if_pos k3, if_neg (fun h => q6 h.1), if_neg q8]
                · refine Fork.mk (fun k4 => ?_) fun k4 => ?_
                  · refine fun _ _ => Fork.mk (fun o => ?_) fun o => ?_
                    · refine Fork.mk (fun q6 => ?_) fun q6 => ?_
                      · refine n6 ?_ rfl _
                        rw [step1, if_neg q1, if_neg (Classical.not_not.2 (show e.bare from q2)), if_neg k1, if_neg k2, if_neg q5, if_neg k3, if_pos k4, if_neg (by unfold activeOk; rw [if_pos o]; exact fun h => h q6)]
                      · refine ok0 (d.active e) (c.active e) v v1 ?_ rfl _
                        rw [step1, if_neg q1, if_neg (Classical.not_not.2 (show e.bare from q2)), if_neg k1, if_neg k2, if_neg q5, if_neg k3, if_pos k4, if_pos (by unfold activeOk; rw [if_pos o]; exact q6)]
                    · refine Fork.mk (fun q6 => ?_) fun q6 => ?_
                      · refine n6 ?_ rfl _
                        rw [step1, if_neg q1, if_neg (Classical.not_not.2 (show e.bare from q2)), if_neg k1, if_neg k2, if_neg q5, if_neg k3, if_pos k4, if_neg (by unfold activeOk; rw [if_neg o]; exact fun h => h q6)]
                      · refine ok0 (d.active e) (c.active e) v v1 ?_ rfl _
                        rw [step1, if_neg q1, if_neg (Classical.not_not.2 (show e.bare from q2)), if_neg k1, if_neg k2, if_neg q5, if_neg k3, if_pos k4, if_pos (by unfold activeOk; rw [if_neg o]; exact q6)]
                  · refine Fork.mk (fun k5 => ?_) fun k5 => ?_
                    · refine fun _ => Fork.mk (fun s1 => ?_) fun s1 => ?_
                      · skip
                        refine Fork.mk (fun q6 => ?_) fun q6 => ?_
                        · refine n6 ?_ rfl _
                          rw [step1, if_neg q1, if_neg (Classical.not_not.2 (show e.bare from q2)), if_neg k1, if_neg k2, if_neg q5, if_neg k3, if_neg k4, if_pos k5, if_neg (by unfold endOk; rw [if_pos s1]; exact q6)]
                        · refine ⟨?_, ?_⟩
                          · refine Need.mk hn0 fun _ => fun _ => Need.mk (by omega) fun _ => fun v2 => ?_
                            refine ok0 (d.ends e) (c.ends e d) v2 v1 ?_ rfl _
                            rw [step1, if_neg q1, if_neg (Classical.not_not.2 (show e.bare from q2)), if_neg k1, if_neg k2, if_neg q5, if_neg k3, if_neg k4, if_pos k5, if_pos (by unfold endOk; rw [if_pos s1]; exact Classical.not_not.1 q6)]
                          · refine fun _ => Need.mk hn0 fun _ => Need.mk (by omega) fun _ => fun v2 => ?_
                            refine ok0 (d.ends e) (c.ends e d) v2 v1 ?_ rfl _
                            rw [step1, if_neg q1, if_neg (Classical.not_not.2 (show e.bare from q2)), if_neg k1, if_neg k2, if_neg q5, if_neg k3, if_neg k4, if_pos k5, if_pos (by unfold endOk; rw [if_pos s1]; exact Classical.not_not.1 q6)]
                      · refine Fork.mk (fun s2 => ?_) fun s2 => ?_
                        · skip
                          refine Fork.mk (fun q6 => ?_) fun q6 => ?_
                          · refine n6 ?_ rfl _
                            rw [step1, if_neg q1, if_neg (Classical.not_not.2 (show e.bare from q2)), if_neg k1, if_neg k2, if_neg q5, if_neg k3, if_neg k4, if_pos k5, if_neg (by unfold endOk; rw [if_neg s1, if_pos s2]; exact q6)]
                          · refine ⟨?_, ?_⟩
                            · refine Need.mk hn0 fun _ => fun _ => Need.mk (by omega) fun _ => fun v2 => ?_
                              refine ok0 (d.ends e) (c.ends e d) v2 v1 ?_ rfl _
                              rw [step1, if_neg q1, if_neg (Classical.not_not.2 (show e.bare from q2)), if_neg k1, if_neg k2, if_neg q5, if_neg k3, if_neg k4, if_pos k5, if_pos (by unfold endOk; rw [if_neg s1, if_pos s2]; exact Classical.not_not.1 q6)]
                            · refine fun _ => Need.mk hn0 fun _ => Need.mk (by omega) fun _ => fun v2 => ?_
                              refine ok0 (d.ends e) (c.ends e d) v2 v1 ?_ rfl _
                              rw [step1, if_neg q1, if_neg (Classical.not_not.2 (show e.bare from q2)), if_neg k1, if_neg k2, if_neg q5, if_neg k3, if_neg k4, if_pos k5, if_pos (by unfold endOk; rw [if_neg s1, if_pos s2]; exact Classical.not_not.1 q6)]
                        · refine Fork.mk (fun s3 => ?_) fun s3 => ?_
                          · skip
                            refine Fork.mk (fun q6 => ?_) fun q6 => ?_
                            · refine n6 ?_ rfl _
                              rw [step1, if_neg q1, if_neg (Classical.not_not.2 (show e.bare from q2)), if_neg k1, if_neg k2, if_neg q5, if_neg k3, if_neg k4, if_pos k5, if_neg (by unfold endOk; rw [if_neg s1, if_neg s2, if_pos s3]; exact q6)]
                            · refine ⟨?_, ?_⟩
                              · refine Need.mk hn0 fun _ => fun _ => Need.mk (by omega) fun _ => fun v2 => ?_
                                refine ok0 (d.ends e) (c.ends e d) v2 v1 ?_ rfl _
                                rw [step1, if_neg q1, if_neg (Classical.not_not.2 (show e.bare from q2)), if_neg k1, if_neg k2, if_neg q5, if_neg k3, if_neg k4, if_pos k5, if_pos (by unfold endOk; rw [if_neg s1, if_neg s2, if_pos s3]; exact Classical.not_not.1 q6)]
                              · refine fun _ => Need.mk hn0 fun _ => Need.mk (by omega) fun _ => fun v2 => ?_
                                refine ok0 (d.ends e) (c.ends e d) v2 v1 ?_ rfl _
                                rw [step1, if_neg q1, if_neg (Classical.not_not.2 (show e.bare from q2)), if_neg k1, if_neg k2, if_neg q5, if_neg k3, if_neg k4, if_pos k5, if_pos (by unfold endOk; rw [if_neg s1, if_neg s2, if_pos s3]; exact Classical.not_not.1 q6)]
                          · refine Fork.mk (fun s4 => ?_) fun s4 => ?_
                            · skip
                              refine Fork.mk (fun q6 => ?_) fun q6 => ?_
                              · refine n6 ?_ rfl _
                                rw [step1, if_neg q1, if_neg (Classical.not_not.2 (show e.bare from q2)), if_neg k1, if_neg k2, if_neg q5, if_neg k3, if_neg k4, if_pos k5, if_neg (by unfold endOk; rw [if_neg s1, if_neg s2, if_neg s3, if_pos s4]; exact q6)]
                              · refine ⟨?_, ?_⟩
                                · refine Need.mk hn0 fun _ => fun _ => Need.mk (by omega) fun _ => fun v2 => ?_
                                  refine ok0 (d.ends e) (c.ends e d) v2 v1 ?_ rfl _
                                  rw [step1, if_neg q1, if_neg (Classical.not_not.2 (show e.bare from q2)), if_neg k1, if_neg k2, if_neg q5, if_neg k3, if_neg k4, if_pos k5, if_pos (by unfold endOk; rw [if_neg s1, if_neg s2, if_neg s3, if_pos s4]; exact Classical.not_not.1 q6)]
                                · refine fun _ => Need.mk hn0 fun _ => Need.mk (by omega) fun _ => fun v2 => ?_
                                  refine ok0 (d.ends e) (c.ends e d) v2 v1 ?_ rfl _
                                  rw [step1, if_neg q1, if_neg (Classical.not_not.2 (show e.bare from q2)), if_neg k1, if_neg k2, if_neg q5, if_neg k3, if_neg k4, if_pos k5, if_pos (by unfold endOk; rw [if_neg s1, if_neg s2, if_neg s3, if_pos s4]; exact Classical.not_not.1 q6)]
                            · refine n6 ?_ rfl _
                              rw [step1, if_neg q1, if_neg (Classical.not_not.2 (show e.bare from q2)), if_neg k1, if_neg k2, if_neg q5, if_neg k3, if_neg k4, if_pos k5, if_neg (by unfold endOk; rw [if_neg s1, if_neg s2, if_neg s3, if_neg s4]; exact id)]
                    · refine n6 ?_ rfl _
                      rw [step1, if_neg q1, if_neg (Classical.not_not.2 (show e.bare from q2)), if_neg k1, if_neg k2, if_neg q5, if_neg k3, if_neg k4, if_neg k5]
        · refine n6 ?_ rfl _
          rw [step1, if_neg q1, if_pos (show ¬ e.bare from q2)]
      · refine n6 ?_ rfl _
        rw [step1, if_pos (Classical.not_not.1 q1)])
  have pre : hp1.map (Ck.den (envS b mc ma bd bh bc v v1 s e d c)) = sysHPs b mc ma ((s.setD e 1 ((bd : Nat) + 1)).setC e 1 ((bc : Nat) + 1)) ++ devHPs bd bh v d ++ callHPs bc v1 c := rfl
  rw [pre, hs1, es] at key
  exact key.post fun _ _ h => h
end Go.RX.So
