/- What the executor is told of SpecOne itself. -/
import Derived.Test.YtphemenngjkfbaaSoAnn
namespace Go.RX.Sl
open Go.RX Go.RX.So
def isAbs : Ck → Bool
  | .abs _ => true
  | _ => false
def useAbs (_ : List SV) (hp : List Ck) : List Nat :=
  match hp.findIdx? isAbs with
  | some i => [i]
  | none => []
def calls (f s : Nat) : Option CallAnn :=
  match f, s with
  | 7, 23 => some { use := fun _ _ => [], val := fun _ => .bool (.lit true), new := fun _ _ => [] }
  | 7, 29 => some { use := fun _ _ => [], inc := { b := 1, p := 1 }, val := fun c => .ptr c.b 0, new := fun c _ => [.abs c.p] }
  | 7, 41 => some { use := useAbs, inc := { i := 1, p := 1 }, val := fun c => .int .i64 (.var c.i), new := fun c _ => [.abs c.p] }
  | 7, 55 => some { use := useAbs, inc := { i := 2, bo := 1 }, val := fun c => .tup [.agg [u8 c.i, u8 (c.i + 1)], .bool (.var c.bo)], new := fun _ h => h }
  | _, _ => none
def recol (a : Nat) : List Col → List Col
  | [] => []
  | k :: r => { k with a := .avar a } :: recol (a + 1) r
def hpL (c : Cnt) (h : List Ck) : List Ck :=
  match h with
  | [e, d, r, .abs _, .map b1 l1 a1 v1 z1 _ c1, .map b2 l2 a2 v2 z2 _ c2, .map b3 l3 a3 v3 z3 _ c3] =>
    [e, d, r, .abs c.p, .map b1 l1 a1 v1 z1 (.avar c.a) (recol (c.a + 1) c1), .map b2 l2 a2 v2 z2 (.avar (c.a + 3)) (recol (c.a + 4) c2), .map b3 l3 a3 v3 z3 (.avar (c.a + 5)) (recol (c.a + 6) c3)]
  | h => h
/-- The first map without values: what was seen. -/
def setSeen (a : Nat) : List Ck → List Ck
  | [] => []
  | .map b l ka va z has [] :: r => .map b l ka va z (.avar a) [] :: r
  | k :: r => k :: setSeen a r
def loops (f id : Nat) : Option LoopAnn :=
  match f, id with
  | 7, 0 => some { inc := { i := 1, a := 8, p := 1 }, slots := fun c => [(35, .int .i64 (.var c.i))], hp := hpL }
  | 7, 2 => some { pre := [.marks], back := [.mark], ds := fun c _ => [.many c.b], inc := { i := 1, b := 1 }, slots := fun c => [(124, .int .i64 (.var c.i))], hp := fun c h => h.map fun | .dfrs _ => .dfrs c.b | k => k }
  | 76, 0 => some { inc := { i := 1, a := 1 }, slots := fun c => [(27, .int .i64 (.var c.i))], hp := fun c h => setSeen c.a h }
  | _, _ => none
def isMapD : Ck → Bool
  | .map _ [.u8, .u8] _ _ [.nilp] _ _ => true
  | _ => false
/-- The system is opened: its row, its maps, the rest. -/
def open1 (st : St) : Option GhostStep :=
  match st.hp.findIdx? isAbs, look st.fr 5 with
  | some j, some (.ptr b 0) =>
    let c := st.cnt
    some { use := [j], inc := { b := 2, a := 5, i := 1, p := 1 },
           new := [.abs c.p, .row b true [.seg .u8 8 (.avar c.a), .mp c.b, .mp (c.b + 1), .int .u64 (.var c.i)],
                   .map c.b k16 true false [.nilp] (.avar (c.a + 1)) [⟨.ptr, 1, .avar (c.a + 2)⟩], .map (c.b + 1) [.u8, .u8] true false [.nilp] (.avar (c.a + 3)) [⟨.ptr, 1, .avar (c.a + 4)⟩]] }
  | _, _ => none
/-- The device that is asked for is opened, if it is there. -/
def open2 (st : St) : Option GhostStep :=
  match st.hp.findIdx? isAbs, st.hp.findIdx? isMapD, look st.fr 131 with
  | some j, some m, some (.agg cs) =>
    match st.hp[m]?, rowOf cs with
    | some (.map b kl ka va z has [⟨ck, w, p⟩]), some (_, a) =>
      let key := eKc 2 a
      let cond := BE.nz (.sel has key)
      let c := st.cnt
      if st.known.contains cond then
        some { use := [j, m], inc := { b := 2, v := 1, a := 9, i := 8, p := 1 },
               new := [.abs c.p, .map b kl ka va z (.upd has key (.lit 1)) [⟨ck, w, .upd p key (.blk c.b)⟩],
                 .row c.b true [u8 c.i, .seg .u8 16 (.avar c.a), .bool (.nz (.var (c.i + 1))), u8 (c.i + 2), u8 (c.i + 3), u8 (c.i + 4), .int .u64 (.var (c.i + 5)), .int .u64 (.var (c.i + 6)), .mp (c.b + 1), .vv c.v],
                 .map (c.b + 1) k16 true true [] (.avar (c.a + 1)) [],
                 .sli true c.v 85 22 (.var (c.i + 7)) (recCols (c.a + 2))] }
      else if st.known.contains (bNot cond) then
        some { use := [m], new := [.map b kl ka va z (.upd has key (.lit 0)) [⟨ck, w, .upd p key (.lit 0)⟩]] }
      else some { split := some cond }
    | _, _ => none
  | _, _, _ => none
def isSli85 : Ck → Bool
  | .sli true _ 85 _ _ _ => true
  | _ => false
/-- It is shut again. -/
def shut2 (st : St) : Option GhostStep :=
  match st.hp.findIdx? isAbs, st.hp.findIdx? isMapD with
  | some j, some m =>
    match st.hp[m]? with
    | some (.map b kl ka va z (.upd has _ _) [⟨ck, w, .upd p _ _⟩]) =>
      match st.hp.findIdx? isSli85 with
      | some s => some { use := [j, m, s - 2, s - 1, s], new := [.abs 2, .map b kl ka va z has [⟨ck, w, p⟩]] }
      | none => some { use := [m], new := [.map b kl ka va z has [⟨ck, w, p⟩]] }
    | _ => none
  | _, _ => none
def ghosts (f r : Nat) : Option (St → Option GhostStep) :=
  match f, r with
  | 7, 27 => some open1
  | 7, 31 => some open2
  | 7, 37 => some shut2
  | _, _ => none
def evCols : List Col := [⟨.int .u8, 1, .avar 0⟩, ⟨.int .u8, 1, .avar 1⟩, ⟨.int .u8, 1, .avar 2⟩, ⟨.int .u64, 1, .avar 3⟩, ⟨.int .u8, 16, .avar 4⟩, ⟨.int .u8, 1, .avar 5⟩, ⟨.int .u8, 1, .avar 6⟩, ⟨.int .u8, 1, .avar 7⟩, ⟨.int .u8, 32, .avar 8⟩, ⟨.int .u8, 1, .avar 9⟩]
def lawHp : List Ck := [.sli false 0 76 56 (.var 0) evCols]
def lawCnt : Cnt := { i := 1, a := 11, v := 1 }
def lawArgs : List SV := [.agg [.seg .u8 8 (.avar 10)], .vv 0]
end Go.RX.Sl
