/- What the executor is told of the loops and calls that RingMemory reaches. -/
import Derived.Test.YtphemenngjkfbaaRxD
namespace Go.RX.Rm
open Go.RX
def colsU (a : E) : List Col := [⟨.int .u16, 1, a⟩]
def hp29 (c : Cnt) (h : List Ck) : List Ck := h.map fun k =>
  match k with
  | .sli false v 53 1 n cs => if v + 1 == c.v then .sli false c.v 53 1 (.var c.i) (colsU (.avar c.a)) else .sli false v 53 1 n cs
  | k => k
def hp5 (c : Cnt) (h : List Ck) : List Ck :=
  match h with
  | [l, .row b w [_, mo], _, _] => [l, .row b w [.vv c.v, mo], .sli false (c.v + 1) 53 1 (.var (c.i + 1)) (colsU (.avar c.a)), .sli true c.v 53 1 (.var (c.i + 1)) (colsU (.avar c.a))]
  | h => h
def newMem (c : Cnt) (h : List Ck) : List Ck :=
  match h with
  | [.row b w [_, mo], _] => [.row b w [.vv c.v, mo], .sli true c.v 53 1 (.var c.i) (colsU (.avar c.a))]
  | _ => []
def loops (f id : Nat) : Option LoopAnn :=
  match f, id with
  | 104, 0 => some { inc := { i := 1 }, slots := fun c => [(8, .int .i64 (.var c.i))] }
  | 29, 0 => some { inc := { i := 1 }, slots := fun c => [(7, .int .i64 (.var c.i))] }
  | 29, 2 => some { pre := [.cut 0 false], back := [.cut 0 false], inc := { v := 1, i := 1, a := 1 }, slots := fun c => [(0, .vv c.v)], hp := hp29 }
  | 5, 0 => some { pre := [.slot 8 53, .cell 1 0 53, .cut 8 false], inc := { v := 2, i := 2, a := 1 }, slots := fun c => [(25, .int .i64 (.var c.i)), (8, .vv (c.v + 1))], hp := hp5 }
  | 5, 4 => some { inc := { i := 1, bo := 1 }, slots := fun c => [(48, .int .i64 (.var c.i)), (13, .bool (.var c.bo))] }
  | _, _ => none
/-- The chunk of a slice that is the first argument. -/
def useVv (as : List SV) (hp : List Ck) : List Nat :=
  match as with
  | .vv v :: _ => match findOwn hp v with
    | some (j, _) => [j]
    | none => []
  | _ => []
/-- A memory's chunks. -/
def useMem (as : List SV) (hp : List Ck) : List Nat :=
  match as with
  | .ptr b 0 :: _ => match findAt hp b with
    | some (j, .row _ _ (.vv v :: _)) => match findOwn hp v with
      | some (k, _) => [j, k]
      | none => []
    | _ => []
  | _ => []
def calls (f s : Nat) : Option CallAnn :=
  match f, s with
  | 70, 7 => some { use := useVv, inc := { i := 1 }, val := fun c => .int .i64 (.var c.i), new := fun _ h => h }
  | 5, 16 => some { use := fun _ _ => [], val := fun _ => .bool (.lit true), new := fun _ _ => [] }
  | 5, 31 => some { use := useMem, inc := { v := 1, i := 1, a := 1 }, val := fun _ => .undef, new := newMem }
  | 5, 35 => some { use := useVv, inc := { v := 1, i := 1, a := 1 }, val := fun c => .vv c.v, new := fun c _ => [.sli false c.v 53 1 (.var c.i) (colsU (.avar c.a))] }
  | 5, 61 => some { use := useMem, inc := { bo := 1 }, val := fun c => .bool (.var c.bo), new := fun _ h => h }
  | _, _ => none
def memHp : List Ck := [.row 0 true [.vv 0, .int .i64 (.var 1)], .sli true 0 53 1 (.var 2) (colsU (.avar 0))]
end Go.RX.Rm
