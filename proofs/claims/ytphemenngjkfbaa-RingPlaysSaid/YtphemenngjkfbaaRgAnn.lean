/- What the executor is told of the loops and calls that RingOnce and RingPlays reach. -/
import Derived.Test.YtphemenngjkfbaaRxD
namespace Go.RX.Rg
open Go.RX
def colsB (a : E) : List Col := [⟨.int .u8, 1, a⟩]
/-- The chunk of a slice that is the first argument. -/
def useVv (as : List SV) (hp : List Ck) : List Nat :=
  match as with
  | .vv v :: _ => match findOwn hp v with
    | some (j, _) => [j]
    | none => []
  | _ => []
/-- A fan's chunks. -/
def useFan (as : List SV) (hp : List Ck) : List Nat :=
  match as with
  | .ptr b 0 :: _ => match findAt hp b with
    | some (j, .row _ _ [_, .vv v, _]) => match findOwn hp v with
      | some (k, _) => [j, k]
      | none => []
    | _ => []
  | _ => []
/-- A fan whose marks, and answerer, are others. -/
def newFan (c : Cnt) (h : List Ck) : List Ck :=
  match h with
  | [.row b w [a, v, _], .sli md v' t s n _] => [.row b w [a, v, .int .i64 (.var c.i)], .sli md v' t s n (colsB (.avar c.a))]
  | _ => []
def hp14 (c : Cnt) (h : List Ck) : List Ck :=
  match h with
  | [.row b w [a, _, m], .sli md _ t s _ _] => [.row b w [a, .vv c.v, m], .sli md c.v t s (.var c.i) (colsB (.avar c.a))]
  | h => h
def hp3 (c : Cnt) (h : List Ck) : List Ck :=
  match h with
  | [l, r4, .row b w [a, v, _], .sli md v' t s n _, .map mb kl ka va z _ _, r7, .row b8 w8 _, .row b9 w9 _, .dfrs _] =>
    [l, r4, .row b w [a, v, .int .i64 (.var (c.i + 1))], .sli md v' t s n (colsB (.avar c.a)), .map mb kl ka va z (.avar (c.a + 1)) (colsB (.avar (c.a + 2))), r7,
      .row b8 w8 [.int .u8 (.var (c.i + 2)), .int .u8 (.var (c.i + 3))], .row b9 w9 [.bool (.var c.bo)], .dfrs c.b]
  | h => h
def hpJ (c : Cnt) (h : List Ck) : List Ck :=
  match h with
  | [l, r4, .row b w [a, v, _], .sli md v' t s n _, .map mb kl ka va z _ _, r7, .row b8 w8 _, .row b9 w9 _, rq, rx] =>
    [l, r4, .row b w [a, v, .int .i64 (.var c.i)], .sli md v' t s n (colsB (.avar c.a)), .map mb kl ka va z (.avar (c.a + 1)) (colsB (.avar (c.a + 2))), r7,
      .row b8 w8 [.int .u8 (.var (c.i + 1)), .int .u8 (.var (c.i + 2))], .row b9 w9 [.bool (.var c.bo)], rq, rx]
  | h => h
def joins (f id : Nat) : Option JoinAnn :=
  match f, id with
  | 3, 2 => some { inc := { i := 3, a := 3, bo := 1 }, slots := fun _ => [], hp := hpJ }
  | _, _ => none
def newNew (c : Cnt) (_ : List Ck) : List Ck := [.row c.b true [.int .u8 (.lit 1), .vv c.v, .int .i64 (.lit (-1))], .sli true c.v 5 1 (.var 0) (colsB (.avar c.a))]
def loops (f id : Nat) : Option LoopAnn :=
  match f, id with
  | 102, 0 => some { inc := { i := 1 }, slots := fun c => [(8, .int .i64 (.var c.i))] }
  | 14, 0 => some { pre := [.cell 0 1 5], inc := { v := 1, i := 1, a := 1 }, slots := fun c => [(21, .int .i64 (.var c.i))], hp := hp14 }
  | 3, 0 => some { pre := [.marks], back := [.mark], ds := fun c _ => [.many c.b], inc := { i := 4, a := 3, bo := 2, b := 1 }, slots := fun c => [(50, .int .i64 (.var c.i)), (10, .bool (.var (c.bo + 1)))], hp := hp3 }
  | 103, 0 => some { inc := { i := 1 }, slots := fun c => [(12, .int .i64 (.var c.i))] }
  | _, _ => none
def calls (f s : Nat) : Option CallAnn :=
  match f, s with
  | 64, 7 => some { use := useVv, inc := { i := 1 }, val := fun c => .int .i64 (.var c.i), new := fun _ h => h }
  | 3, 22 => some { use := fun _ _ => [], val := fun _ => .bool (.lit true), new := fun _ _ => [] }
  | 3, 26 => some { use := fun _ _ => [], inc := { b := 1, v := 1, a := 1 }, val := fun c => .tup [.ptr c.b 0, .int .i64 (.lit 0)], new := newNew }
  | 3, 65 => some { use := useFan, inc := { i := 2, a := 1 }, val := fun c => .int .i64 (.var (c.i + 1)), new := newFan }
  | 3, 88 => some { use := useFan, inc := { i := 2, a := 1 }, val := fun c => .int .i64 (.var (c.i + 1)), new := newFan }
  | 3, 95 => some { use := useFan, inc := { i := 2, bo := 1 }, val := fun c => .tup [.agg [.int .u8 (.var c.i), .int .u8 (.var (c.i + 1))], .bool (.var c.bo)], new := fun _ h => h }
  | 3, 100 => some { use := useFan, inc := { i := 1, bo := 1 }, val := fun c => .tup [.int .u8 (.var c.i), .bool (.var c.bo)], new := fun _ h => h }
  | _, _ => none
/-- As above, but New gives nothing. -/
def callsI (f s : Nat) : Option CallAnn :=
  match f, s with
  | 3, 26 => some { use := fun _ _ => [], val := fun _ => .tup [.nilp, .int .i64 (.lit 2)], new := fun _ _ => [] }
  | f, s => calls f s
def doCols : List Col := [⟨.int .u8, 1, .avar 0⟩, ⟨.int .u8, 1, .avar 1⟩, ⟨.int .u8, 1, .avar 2⟩, ⟨.int .u8, 1, .avar 3⟩, ⟨.int .i64, 1, .avar 4⟩]
def fanHp : List Ck := [.row 0 true [.int .u8 (.var 3), .vv 0, .int .i64 (.var 4)], .sli true 0 5 1 (.var 5) (colsB (.avar 0))]
end Go.RX.Rg
