/- A reflective symbolic executor, part 15: addresses, append; every operation. -/
import Derived.Test.YtgaabcinjbjbgaaGreatDoorRxN
namespace Go.RX

section
variable {P : Program} {ρ : Env} {w : World} {look : Nat → Option SV} {vals : Operand → Value} {hp : List Ck} {S : Nat → Nat → Prop} {nb nv : Nat} {T : List TI}

theorem litNat_den {i : E} {n : Nat} (h : litNat i = some n) : i.den ρ 0 = n := by
  unfold litNat at h
  split at h
  · cases h; rfl
  · cases h
theorem mkPtr_val (b : Nat) (i : E) (s c : Nat) : (mkPtr b i s c).val ρ = .pointer (some ⟨ρ.bv.getD b 0, (i.den ρ 0).toNat * s + c, none⟩) := by
  unfold mkPtr
  split
  · rename_i n hn
    simp [SV.val, litNat_den hn]
  · rfl

/-- A field's place. -/
theorem run_fieldAt_sound (hT : checkT P T = true) {s : TypeId} {ts ti : TI} (hs : tlook T s = some ts) {fs : List (Nat × Nat)} (hk : ts.k = .struct fs) {f t off : Nat}
    (hf : fs[f]? = some (t, off)) (ht : tlook T t = some ti) (hsz : ¬ ti.size = 0) (a : Addr) :
    (Instr.fieldAt s (.pointer (some a)) f).run P w = .ok (.pointer (some (a.add off))) w := by
  obtain ⟨rfl, hts⟩ := tlook_spec hT hs
  obtain ⟨rfl, hti⟩ := tlook_spec hT ht
  have hkk := hts.kind
  rw [hk] at hkk
  obtain ⟨fa, hu, hfa⟩ := kind_struct hkk
  subst hfa
  rw [List.getElem?_map, Option.map_eq_some_iff] at hf
  obtain ⟨fd, hfd, he⟩ := hf
  rw [Array.getElem?_toList] at hfd
  simp only [Prod.mk.injEq] at he
  have h1 : (Go.sizeOf fd.type).run P w = .ok ti.size w := by rw [he.1]; exact hti.sizeOf w
  simp [Instr.fieldAt, run_underlying hu, hfd, Instr.sureAddr, fieldPlace, h1, hsz, he.2]

theorem run_field_sound (hT : checkT P T = true) {s : TypeId} {ts ti : TI} (hs : tlook T s = some ts) {fs : List (Nat × Nat)} (hk : ts.k = .struct fs) {f t off : Nat}
    (hf : fs[f]? = some (t, off)) (ht : tlook T t = some ti) {cs x : List SV} {v : SV} (hx : rowCut off ti.size cs = some x) (hv : ofCells ti.k.agg x = some v) :
    (Instr.field s (.agg (SV.cellsL ρ cs).toArray) f).run P w = .ok (v.val ρ) w := by
  obtain ⟨rfl, hts⟩ := tlook_spec hT hs
  obtain ⟨rfl, hti⟩ := tlook_spec hT ht
  have hkk := hts.kind
  rw [hk] at hkk
  obtain ⟨fa, hu, hfa⟩ := kind_struct hkk
  subst hfa
  rw [List.getElem?_map, Option.map_eq_some_iff] at hf
  obtain ⟨fd, hfd, he⟩ := hf
  rw [Array.getElem?_toList] at hfd
  simp only [Prod.mk.injEq] at he
  have h1 := part_sound (ρ := ρ) (w := w) hti hx hv
  rw [← he.1, ← he.2] at h1
  simp [Instr.field, run_underlying hu, hfd, asAgg, h1]

theorem run_indexAt_sl (hT : checkT P T = true) {t : TypeId} {tt te : TI} (ht : tlook T t = some tt) {e : Nat} (hk : tt.k = .slice e) (hte : tlook T e = some te)
    (a : Addr) (n c : Nat) (k : IntKind) (j : Int) (h0 : 0 ≤ j) (h1 : j < n) :
    (Instr.indexAt t (.slice (some a) n c) (.int k j)).run P w = .ok (.pointer (some (a.add (j.toNat * te.size)))) w := by
  obtain ⟨rfl, hts⟩ := tlook_spec hT ht
  obtain ⟨rfl, hti⟩ := tlook_spec hT hte
  have hkk := hts.kind
  rw [hk] at hkk
  have hu := kind_slice hkk
  simp [Instr.indexAt, run_underlying hu, asIntOf, h0, h1, hti.sizeOf w]

theorem run_indexAt_ar (hT : checkT P T = true) {t : TypeId} {tt te : TI} (ht : tlook T t = some tt) {n e : Nat} (hk : tt.k = .arr n e) (hte : tlook T e = some te)
    (a : Addr) (k : IntKind) (j : Int) (h0 : 0 ≤ j) (h1 : j < n) :
    (Instr.indexAt t (.pointer (some a)) (.int k j)).run P w = .ok (.pointer (some (a.add (j.toNat * te.size)))) w := by
  obtain ⟨rfl, hts⟩ := tlook_spec hT ht
  obtain ⟨rfl, hti⟩ := tlook_spec hT hte
  have hkk := hts.kind
  rw [hk] at hkk
  have hu := kind_arr hkk
  simp [Instr.indexAt, run_underlying hu, asIntOf, Instr.sureAddr, h0, h1, hti.sizeOf w]

theorem run_index_ar (hT : checkT P T = true) {t : TypeId} {tt te : TI} (ht : tlook T t = some tt) {n e : Nat} (hk : tt.k = .arr n e) (hte : tlook T e = some te)
    (cs : Array Value) (k : IntKind) (j : Int) (h0 : 0 ≤ j) (h1 : j < n) {v : Value} (hp : (part te.t cs (j.toNat * te.size)).run P w = .ok v w) :
    (Instr.index t (.agg cs) (.int k j)).run P w = .ok v w := by
  obtain ⟨rfl, hts⟩ := tlook_spec hT ht
  obtain ⟨rfl, hti⟩ := tlook_spec hT hte
  have hkk := hts.kind
  rw [hk] at hkk
  have hu := kind_arr hkk
  simp [Instr.index, run_underlying hu, asIntOf, h0, h1, hti.sizeOf w, hp]

theorem run_len_sl (hT : checkT P T = true) {t : TypeId} {tt : TI} (ht : tlook T t = some tt) {e : Nat} (hk : tt.k = .slice e) (a : Option Addr) (n c : Nat) (ty : TypeId) :
    (Builtin.len_ #[t] ty #[.slice a n c]).run P w = .ok (goInt n) w := by
  obtain ⟨rfl, hts⟩ := tlook_spec hT ht
  have hkk := hts.kind
  rw [hk] at hkk
  have hu := kind_slice hkk
  simp [Builtin.len_, run_underlying hu]
theorem run_len_st (hT : checkT P T = true) {t : TypeId} {tt : TI} (ht : tlook T t = some tt) (hk : tt.k = .str) (s : ByteArray) (ty : TypeId) :
    (Builtin.len_ #[t] ty #[.string s]).run P w = .ok (goInt s.size) w := by
  obtain ⟨rfl, hts⟩ := tlook_spec hT ht
  have hkk := hts.kind
  rw [hk] at hkk
  have hu : P.underlying tt.t = some .string := by
    unfold tkOk at hkk
    split at hkk <;> simp_all
  simp [Builtin.len_, run_underlying hu]

theorem tab_succ (cols : List Col) (n : Nat) : tabCells ρ (n + 1) cols = tabCells ρ n cols ++ rowAt ρ cols n := by
  unfold tabCells tabL rowAt
  rw [List.range_succ, List.flatMap_append]
  simp

theorem tab_congr (c1 c2 : List Col) (n : Nat) (h : ∀ i, i < n → rowAt ρ c1 i = rowAt ρ c2 i) : tabCells ρ n c1 = tabCells ρ n c2 := by
  unfold tabCells tabL
  unfold rowAt at h
  rw [List.flatMap_def, List.flatMap_def]
  congr 1
  exact List.map_congr_left fun i hi => h i (List.mem_range.1 hi)

/-- Appending to a slice without room. -/
theorem run_append_full (t ty e : TypeId) (i : TypeInfo) (z : Value) (size bytes : Nat) (ht : P.underlying t = some (.slice e)) (hi : P.info? e = some i) (hz : i.zero = some z)
    (hsize : i.size = size) (hby : i.bytes = bytes) (hzs : z.cells.size = size)
    (b : Addr) (n : Nat) (xs : List Value) (hxs : xs.length = n * size) (holds : ∀ j u, xs[j]? = some u → w.cell? (b.add j) = some u)
    (a : Addr) (m c : Nat) (hm : 0 < m) (news : List Value) (hl : news.length = m * size) (hnews : ∀ j u, news[j]? = some u → w.cell? (a.add j) = some u)
    (h63 : n + m ≤ maxLen) (hbytes : (n + m) * bytes ≤ 140737488355328) :
    ∃ v' w', (Builtin.append_ #[t, t] ty #[.slice (some b) n n, .slice (some a) m c]).run P w = .ok v' w' ∧ w'.ownsAt e size v' (n + m) (xs ++ news) ∧ w.grownBy w' none ∧ v'.ownBlock = some w.heap.size := by
  subst hsize
  subst hby
  have hlen : (xs ++ news).length = (n + m) * i.size := by rw [List.length_append, hxs, hl, Nat.add_mul]
  have hge := grownCap_ge w (n + m) n e
  have hcm' : grownCap w (n + m) n e ≤ maxLen := grownCap_le_maxLen w (n + m) n e h63
  have hr := run_append_grow (P := P) w t ty e i z ht hi hz b n n xs hxs holds a m c news hl hnews (by omega) (by simp only [maxLen] at h63; omega) (growslice_fits (by omega) hbytes)
  refine ⟨_, _, hr, ⟨hlen, .inr ⟨w.heap.size, 0, _, _, rfl, ⟨e, heap_alloc_new w.drew _⟩, hge, hcm', ?_, ?_⟩⟩, ⟨rfl, rfl, rfl, by simp, fun k hk _ => heap_alloc_old w.drew _ hk⟩, rfl⟩
  · simp only [Array.size_append, List.size_toArray, size_zeroCells, hzs, hxs, hl, ← Nat.add_mul, Nat.zero_add]
    intro _
    apply Nat.le_of_eq
    congr 1
    omega
  · simp only [Array.toList_append, List.drop_zero]
    first
      | (rw [← hlen]; exact List.take_left)
      | (rw [List.append_assoc, ← List.append_assoc, ← hlen]; exact List.take_left)

/-- Appending to what is owned, from whatever place of its block on. -/
theorem run_append_at (t ty e : TypeId) (i : TypeInfo) (z : Value) (size bytes : Nat) (ht : P.underlying t = some (.slice e)) (hi : P.info? e = some i) (hz : i.zero = some z)
    (hsize : i.size = size) (hby : i.bytes = bytes) (hzs : z.cells.size = size) (hsz : 0 < size)
    (v : Value) (n : Nat) (xs : List Value) (hown : w.ownsAt e size v n xs)
    (a : Addr) (m c : Nat) (news : List Value) (hl : news.length = m * size) (hnews : ∀ j u, news[j]? = some u → w.cell? (a.add j) = some u) (h1 : ∀ u ∈ news, u.oneCell' = true)
    (h63 : n + m ≤ maxLen) (hbytes : (n + m) * bytes ≤ 140737488355328) :
    ∃ v' w', (Builtin.append_ #[t, t] ty #[v, .slice (some a) m c]).run P w = .ok v' w' ∧ w'.ownsAt e size v' (n + m) (xs ++ news) ∧ w.grownBy w' v.ownBlock ∧
      (v'.ownBlock = v.ownBlock ∨ v'.ownBlock = some w.heap.size) := by
  rcases hown.2 with ⟨rfl, rfl⟩ | ⟨g, o, cap, cur, rfl, ⟨t', hg⟩, hnc, hcm, hcs, htk⟩
  · have hx : xs = [] := List.eq_nil_of_length_eq_zero (by simpa using hown.1)
    subst hx
    obtain ⟨v', w', r1, r2, r3, _, r5⟩ := run_append_own_at (P := P) w 0 t ty e i z size bytes ht hi hz hsize hby hzs hsz (.slice none 0 0) 0 [] (World.ownsRow_nil w 0 e size) a m c news hl hnews h1 h63 hbytes (Nat.zero_le _)
    exact ⟨v', w', r1, ownsAt_of r2, r3, r5⟩
  · subst hsize
    subst hby
    have hlen : (xs ++ news).length = (n + m) * i.size := by rw [List.length_append, hown.1, hl, Nat.add_mul]
    by_cases hroom : n + m ≤ cap
    · by_cases hm0 : m = 0
      · subst hm0
        have : news = [] := List.eq_nil_of_length_eq_zero (by simpa using hl)
        subst this
        refine ⟨_, w, ?_, by simpa using hown, ⟨rfl, rfl, rfl, Nat.le_refl _, fun _ _ _ => rfl⟩, .inl rfl⟩
        simp [Builtin.append_, run_underlying ht, sizeOf, typeInfo, hi, Builtin.lenOf, Builtin.firstCells, hnc, storeCells, loadCells, loadCellsFrom]
      have hcs := hcs (by omega)
      have hmul : (n + m) * i.size ≤ cap * i.size := Nat.mul_le_mul_right _ hroom
      rw [Nat.add_mul] at hmul
      have hfit : o + n * i.size + news.length ≤ cur.size := by omega
      have hfc := run_firstCells_some (P := P) w i.size m a m c news hl hnews
      have hst := run_storeCells_at (P := P) g (o + n * i.size) t' news 0 cur w hg (by simpa using hfit) h1
      simp only [Nat.add_zero] at hst
      have hr : (Builtin.append_ #[t, t] ty #[.slice (some ⟨g, o, none⟩) n cap, .slice (some a) m c]).run P w = .ok (.slice (some ⟨g, o, none⟩) (n + m) cap) (w.setRow g (cur.toList.take (o + n * i.size) ++ news ++ cur.toList.drop (o + n * i.size + news.length)).toArray) := by
        simp [Builtin.append_, run_underlying ht, sizeOf, typeInfo, hi, Builtin.lenOf, hroom, hfc, addr_add_at, hst]
      refine ⟨_, _, hr, ⟨hlen, .inr ⟨g, o, cap, _, rfl, ⟨t', setRow_heap w g cur _ t' _ hg⟩, hroom, hcm, ?_, ?_⟩⟩, ⟨rfl, rfl, rfl, by simp, fun k _ hk => setRow_other w g k _ (fun e => hk (by simp [Value.ownBlock, e]))⟩, Or.inl rfl⟩
      · simp only [List.size_toArray, List.length_append, List.length_take, List.length_drop, Array.length_toList]
        intro _
        omega
      · have := take_put_at cur.toList news o (n * i.size) ((n + m) * i.size) (by rw [Nat.add_mul]; omega) (by rw [Nat.add_mul]; simp; omega)
        simp only 
        rw [this, List.take_take, Nat.min_eq_left (by rw [Nat.add_mul]; omega), htk, hl, ← Nat.add_mul, List.drop_eq_nil_of_le (by rw [List.length_take]; exact Nat.min_le_left _ _), List.append_nil]
    · have hge := grownCap_ge w (n + m) cap e
      have hcm' : grownCap w (n + m) cap e ≤ maxLen := grownCap_le_maxLen w (n + m) cap e h63
      have hr := run_append_grow (P := P) w t ty e i z ht hi hz ⟨g, o, none⟩ n cap xs hown.1 (ownsAt_cells hown) a m c news hl hnews (by omega) (by simp only [maxLen] at h63; omega) (growslice_fits (by omega) hbytes)
      refine ⟨_, _, hr, ⟨hlen, .inr ⟨w.heap.size, 0, _, _, rfl, ⟨e, heap_alloc_new w.drew _⟩, hge, hcm', ?_, ?_⟩⟩, ⟨rfl, rfl, rfl, by simp, fun k hk _ => heap_alloc_old w.drew _ hk⟩, Or.inr rfl⟩
      · simp only [Array.size_append, List.size_toArray, size_zeroCells, hzs, hown.1, hl, ← Nat.add_mul, Nat.zero_add]
        intro _
        apply Nat.le_of_eq
        congr 1
        omega
      · simp only [Array.toList_append, List.drop_zero]
        first
          | (rw [← hlen]; exact List.take_left)
          | (rw [List.append_assoc, ← List.append_assoc, ← hlen]; exact List.take_left)

theorem append_sound (hT : checkT P T = true) (hok : ρ.Ok) {ts : TypeId} {tt te : TI} (ht : tlook T ts = some tt) {e : Nat} (hk : tt.k = .slice e) (hte : tlook T e = some te) {s : Nat} (hs : te.size = s) (hs0 : 0 < s)
    {v j j' b cap : Nat} {n : E} {cols cols' : List Col} {cs : List SV} {wr : Bool} (hj : hp[j]? = some (.sli true v e s n cols)) (hS : ((Ck.sli true v e s n cols).den ρ).p w (S j))
    (_ : hp[j']? = some (.row b wr cs)) (hS' : ((Ck.row b wr cs).den ρ).p w (S j')) (hw : s = colsW cols) (hlen : rowLen cs = s) (hone : cs.all SV.one = true) (hput : colPuts n cs cols = some cols')
    (h0 : 0 ≤ n.den ρ 0) (hbig : (n.den ρ 0 + 1) * (max 1 te.bytes : Nat) ≤ 140737488355328) (ty : TypeId) :
    Did P ρ w hp S nb nv ((do pure (.value (← Builtin.append_ #[ts, ts] ty #[(SV.vv v).val ρ, .slice (some ⟨ρ.bv.getD b 0, 0, none⟩) 1 cap])) : Sem Next).run P w)
      { val := .vv nv, eff := .app j (.sli true nv e s (eAdd n (.lit 1)) cols') } := by
  obtain ⟨rfl, htt⟩ := tlook_spec hT ht
  obtain ⟨rfl, hti⟩ := tlook_spec hT hte
  have hkk := htt.kind
  rw [hk] at hkk
  have hu := kind_slice hkk
  obtain ⟨i, hi, hsz, hby, z, hz, hc⟩ := hti.info
  have hzs : z.cells.size = te.size := by rw [← Array.length_toList, ← hc ρ, cellsL_length, hti.zlen]
  obtain ⟨hown, hblk⟩ := hS
  simp only [if_true] at hown
  have hbig' : ((n.den ρ 0).toNat + 1) * (max 1 te.bytes) ≤ 140737488355328 := by
    have : (((n.den ρ 0).toNat + 1 : Nat) : Int) = n.den ρ 0 + 1 := by omega
    rw [← this] at hbig
    have h2 : ((((n.den ρ 0).toNat + 1) * (max 1 te.bytes) : Nat) : Int) ≤ ((140737488355328 : Nat) : Int) := by rw [Int.natCast_mul]; exact hbig
    exact Int.ofNat_le.1 h2
  have hb1 : ((n.den ρ 0).toNat + 1) * 1 ≤ ((n.den ρ 0).toNat + 1) * max 1 te.bytes := Nat.mul_le_mul_left _ (Nat.le_max_left _ _)
  have hb2 : ((n.den ρ 0).toNat + 1) * te.bytes ≤ ((n.den ρ 0).toNat + 1) * max 1 te.bytes := Nat.mul_le_mul_left _ (Nat.le_max_right _ _)
  obtain ⟨v', w', hr, how, hg, hbk⟩ := run_append_at (P := P) (w := w) tt.t ty te.t i z s te.bytes hu hi hz (by rw [hsz, hs]) hby (by rw [hzs, hs]) hs0
    _ _ _ hown ⟨ρ.bv.getD b 0, 0, none⟩ 1 cap (SV.cellsL ρ cs) (by rw [cellsL_length, Nat.one_mul]; exact hlen)
    (fun k u hk => rowHP_read hS' 0 k u hk) (oneL_cells ρ hone hok) (Nat.le_trans (show (n.den ρ 0).toNat + 1 ≤ 140737488355328 by omega) (by unfold maxLen; omega)) (by omega)
  have hcells : tabCells ρ ((eAdd n (.lit 1)).den ρ 0).toNat cols' = tabCells ρ (n.den ρ 0).toNat cols ++ SV.cellsL ρ cs := by
    have e1 : ((eAdd n (.lit 1)).den ρ 0).toNat = (n.den ρ 0).toNat + 1 := by
      rw [eAdd_den]; simp only [E.den]; omega
    obtain ⟨p1, p2, p3, p4⟩ := colPuts_spec ρ hput
    rw [e1, tab_succ, p4, tab_congr cols' cols _ (fun k hk => p3 k (by omega))]
    congr 1
    rw [List.drop_eq_nil_of_le, List.append_nil]
    rw [show (rowAt ρ cols (n.den ρ 0).toNat).length = colsW cols from row_length ρ cols _, cellsL_length, ← hw]
    exact Nat.le_of_eq hlen.symm
  refine ⟨te.t, s, _, cols', v', w', fun k => v'.ownBlock = some k, rfl, rfl, by simp only [SV.val, Sem.run_bind, hr, Result.andThen_ok, Sem.run_pure], ?_, ⟨_, hj, rfl⟩, ?_, ?_, ⟨?_, fun k => ⟨fun h => ⟨h, .inl rfl⟩, fun h => h.1⟩⟩, ?_⟩
  · rcases how.2 with ⟨rfl, _⟩ | ⟨g, o, cap, cur, rfl, _⟩ <;> rfl
  · exact ⟨hg.os, hg.tape, hg.output, hg.size⟩
  · intro k hk hn
    refine hg.block k hk fun he => hn ((hblk k).2 ⟨he.symm, .inl rfl⟩)
  · simp only [if_true]
    have e1 : ((eAdd n (.lit 1)).den ρ 0).toNat = (n.den ρ 0).toNat + 1 := by
      rw [eAdd_den]; simp only [E.den]; omega
    rw [hcells, e1]
    exact how
  · intro k hk
    rcases hbk with h | h
    · left; rw [hblk k, ← h]; exact ⟨hk, .inl rfl⟩
    · right
      rw [hk] at h
      cases h
      exact ⟨Nat.le_refl _, ownsAt_lt how hk⟩

/-- A nil slice is appended to. -/
theorem append_nil_sound (hT : checkT P T = true) (hok : ρ.Ok) {ts : TypeId} {tt te : TI} (ht : tlook T ts = some tt) {e : Nat} (hk : tt.k = .slice e) (hte : tlook T e = some te) {s : Nat} (hs : te.size = s) (hs0 : 0 < s)
    {j' b cap : Nat} {cols cols' : List Col} {cs : List SV} {wr : Bool}
    (hS' : ((Ck.row b wr cs).den ρ).p w (S j')) (hw : s = colsW cols) (hlen : rowLen cs = s) (hone : cs.all SV.one = true) (hput : colPuts (.lit 0) cs cols = some cols')
    (hbig : te.bytes ≤ 140737488355328) (ty : TypeId) :
    Did P ρ w hp S nb nv ((do pure (.value (← Builtin.append_ #[ts, ts] ty #[SV.nils.val ρ, .slice (some ⟨ρ.bv.getD b 0, 0, none⟩) 1 cap])) : Sem Next).run P w)
      { val := .vv nv, eff := .own (.sli true nv e s (.lit 1) cols') } := by
  obtain ⟨rfl, htt⟩ := tlook_spec hT ht
  obtain ⟨rfl, hti⟩ := tlook_spec hT hte
  have hkk := htt.kind
  rw [hk] at hkk
  have hu := kind_slice hkk
  obtain ⟨i, hi, hsz, hby, z, hz, hc⟩ := hti.info
  have hzs : z.cells.size = te.size := by rw [← Array.length_toList, ← hc ρ, cellsL_length, hti.zlen]
  obtain ⟨v', w', hr, how, hg, hbk⟩ := run_append_at (P := P) (w := w) tt.t ty te.t i z s te.bytes hu hi hz (by rw [hsz, hs]) hby (by rw [hzs, hs]) hs0
    (.slice none 0 0) 0 [] (ownsAt_nil w te.t s) ⟨ρ.bv.getD b 0, 0, none⟩ 1 cap (SV.cellsL ρ cs) (by rw [cellsL_length, Nat.one_mul]; exact hlen)
    (fun k u hk => rowHP_read hS' 0 k u hk) (oneL_cells ρ hone hok) (by unfold maxLen; omega) (by omega)
  have hcells : tabCells ρ 1 cols' = SV.cellsL ρ cs := by
    obtain ⟨p1, p2, p3, p4⟩ := colPuts_spec ρ hput
    have e0 : tabCells ρ 1 cols' = tabCells ρ 0 cols' ++ rowAt ρ cols' 0 := tab_succ cols' 0
    rw [e0]
    simp only [E.den, Int.toNat_zero] at p4
    rw [p4, List.drop_eq_nil_of_le, List.append_nil]
    · simp [tabCells, tabL]
    · rw [show (rowAt ρ cols 0).length = colsW cols from row_length ρ cols _, cellsL_length, ← hw]
      exact Nat.le_of_eq hlen.symm
  refine ⟨te.t, s, _, cols', v', w', fun k => v'.ownBlock = some k, rfl, rfl, by simp only [SV.val, Sem.run_bind, hr, Result.andThen_ok, Sem.run_pure], ?_, ⟨hg.os, hg.tape, hg.output, hg.size⟩, fun k hk => hg.block k hk (by simp [Value.ownBlock]), ⟨?_, fun k => ⟨fun h => ⟨h, .inl rfl⟩, fun h => h.1⟩⟩, ?_⟩
  · rcases how.2 with ⟨rfl, _⟩ | ⟨g, o, cap, cur, rfl, _⟩ <;> rfl
  · simp only [if_true]
    have e1 : ((E.lit 1).den ρ 0).toNat = 1 := rfl
    rw [e1, hcells]
    simpa using how
  · intro k hk
    rcases hbk with h | h
    · rw [hk] at h; cases h
    · rw [hk] at h
      cases h
      exact ⟨Nat.le_refl _, ownsAt_lt how hk⟩

end
end Go.RX
