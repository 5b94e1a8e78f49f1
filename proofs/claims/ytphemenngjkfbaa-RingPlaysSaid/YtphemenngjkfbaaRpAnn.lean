/- What the executor is told of the loops and calls that RingPlays reaches. -/
import Derived.Test.YtphemenngjkfbaaRgAnn
namespace Go.RX.Rp
open Go.RX Go.RX.Rg
/-- The reference's fan: a row and its marks. -/
def refHp : List Ck := [.row 0 true [.int .u8 (.var 3), .vv 0, .int .i64 (.var 4)], .sli true 0 5 1 (.var 5) (colsB (.avar 0))]
def hp20 (c : Cnt) (h : List Ck) : List Ck :=
  match h with
  | [r4, .row b w [a, _, m], .sli md _ t s _ _] => [r4, .row b w [a, .vv c.v, m], .sli md c.v t s (.var c.i) (colsB (.avar c.a))]
  | h => h
def devCols (a b : E) : List Col := [⟨.int .u8, 1, a⟩, ⟨.int .u8, 1, b⟩]
def hp23 (c : Cnt) (h : List Ck) : List Ck :=
  match h with
  | [r, m, .sli md _ t s _ _] => [r, m, .sli md c.v t s (.var (c.i + 1)) (devCols (.avar c.a) (.avar (c.a + 1)))]
  | h => h
/-- Both fans: their answerer, and their marks, are the same. -/
def both (c : Cnt) (h : List Ck) : List Ck :=
  match h with
  | .row b w [a, v, _] :: .sli md v1 t s n _ :: .sli md2 v2 t2 s2 n2 _ :: .row b2 w2 [a2, vv2, _] :: .dfrs _ :: r =>
    .row b w [a, v, .int .i64 (.var c.i)] :: .sli md v1 t s n (colsB (.avar c.a)) :: .sli md2 v2 t2 s2 n2 (colsB (.avar c.a)) :: .row b2 w2 [a2, vv2, .int .i64 (.var c.i)] :: .dfrs c.b :: r
  | h => h
def hp4 (c : Cnt) (h : List Ck) : List Ck :=
  match h with
  | l :: r3 :: r6 :: r => l :: r3 :: r6 :: both c r
  | h => h
def count (c : Cnt) (h : List Ck) : List Ck :=
  match h with
  | .row b w [.int k _] :: r => .row b w [.int k (.var (c.i + 1))] :: r
  | h => h
def hp103 (c : Cnt) (h : List Ck) : List Ck :=
  match h with
  | l :: r3 :: r6 :: f :: m :: m2 :: f2 :: d :: .row b w [x] :: r => l :: r3 :: r6 :: f :: m :: m2 :: f2 :: d :: count c (.row b w [x] :: r)
  | l :: r3 :: r6 :: f :: m :: m2 :: f2 :: d :: r12 :: r => l :: r3 :: r6 :: f :: m :: m2 :: f2 :: d :: r12 :: count c r
  | h => h
def joins (f id : Nat) : Option JoinAnn :=
  match f, id with
  | 4, 2 => some { pre := [.mark], inc := { i := 1, a := 1, bo := 1, b := 1 }, slots := fun c => [(13, .bool (.var c.bo))], hp := hp4, ds := fun c _ => [.many c.b] }
  | _, _ => none
def loops (f id : Nat) : Option LoopAnn :=
  match f, id with
  | 4, 0 => some { pre := [.marks], back := [.mark], ds := fun c _ => [.many c.b], inc := { i := 2, a := 1, b := 1 }, slots := fun c => [(63, .int .i64 (.var (c.i + 1)))], hp := hp4 }
  | 103, 0 => some { inc := { i := 2 }, slots := fun c => [(12, .int .i64 (.var c.i))], hp := hp103 }
  | 20, 0 => some { pre := [.cell 1 1 5], inc := { v := 1, i := 1, a := 1 }, slots := fun c => [(7, .int .i64 (.var c.i))], hp := hp20 }
  | 23, 0 => some { pre := [.slot 3 30], inc := { v := 1, i := 2, a := 2 }, slots := fun c => [(4, .int .i64 (.var c.i)), (3, .vv c.v)], hp := hp23 }
  | 24, 0 => some { inc := { i := 1, bo := 3 }, slots := fun c => [(7, .int .i64 (.var c.i)), (4, .bool (.var c.bo)), (5, .bool (.var (c.bo + 1))), (6, .bool (.var (c.bo + 2)))] }
  | f, id => Rg.loops f id
def newNew (c : Cnt) (_ : List Ck) : List Ck := [.row c.b true [.int .u8 (.var 0), .vv c.v, .int .i64 (.lit (-1))], .sli true c.v 5 1 (.var 1) (colsB (.avar c.a))]
def calls (f s : Nat) : Option CallAnn :=
  match f, s with
  | 4, 25 => some { use := fun _ _ => [], val := fun _ => .bool (.lit true), new := fun _ _ => [] }
  | 4, 30 => some { use := fun _ _ => [], inc := { b := 1, v := 1, a := 1 }, val := fun c => .tup [.ptr c.b 0, .int .i64 (.lit 0)], new := newNew }
  | 4, 36 => some { use := fun _ _ => [], inc := { v := 1, a := 1 }, val := fun c => .tup [.agg [.int .u8 (.var 0), .vv c.v, .int .i64 (.lit (-1))], .bool (.lit true)], new := fun c _ => [.sli true c.v 5 1 (.var 1) (colsB (.avar c.a))] }
  | 4, 76 => some { use := useFan, inc := { i := 2, a := 1 }, val := fun c => .int .i64 (.var (c.i + 1)), new := newFan }
  | 4, 81 => some { use := useFan, inc := { i := 2, a := 1 }, val := fun c => .int .i64 (.var (c.i + 1)), new := newFan }
  | 4, 88 => some { use := useFan, inc := { i := 2, a := 1 }, val := fun c => .int .i64 (.var (c.i + 1)), new := newFan }
  | 4, 91 => some { use := useFan, inc := { i := 2, a := 1 }, val := fun c => .int .i64 (.var (c.i + 1)), new := newFan }
  | 4, 95 => some { use := useFan, inc := { i := 1, a := 2, v := 1 }, val := fun c => .vv c.v, new := fun c h => h ++ [.sli true c.v 30 2 (.var c.i) (devCols (.avar c.a) (.avar (c.a + 1)))] }
  | 4, 127 => some { use := useFan, inc := { i := 1, bo := 1 }, val := fun c => .tup [.int .u8 (.var c.i), .bool (.var c.bo)], new := fun _ h => h }
  | 4, 131 => some { use := useFan, inc := { i := 1, bo := 1 }, val := fun c => .tup [.int .u8 (.var c.i), .bool (.var c.bo)], new := fun _ h => h }
  | 4, 136 => some { use := useFan, inc := { i := 2, bo := 1 }, val := fun c => .tup [.agg [.int .u8 (.var c.i), .int .u8 (.var (c.i + 1))], .bool (.var c.bo)], new := fun _ h => h }
  | f, s => Rg.calls f s
/-- As above, but New gives nothing. -/
def callsI (f s : Nat) : Option CallAnn :=
  match f, s with
  | 4, 30 => some { use := fun _ _ => [], val := fun _ => .tup [.nilp, .int .i64 (.lit 2)], new := fun _ _ => [] }
  | 4, 36 => some { use := fun _ _ => [], inc := { v := 1 }, val := fun c => .tup [.agg [.int .u8 (.var 0), .nils, .int .i64 (.lit (-1))], .bool (.lit false)], new := fun _ _ => [] }
  | f, s => calls f s
end Go.RX.Rp
