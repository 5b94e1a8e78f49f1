/- What the executor is told of the loops and calls of SHA-256, the program's and the document's. -/
import Derived.Test.YtphemenngjkfbaaRxD
namespace Go.RX.Sh
open Go.RX
def cW (a : E) : List Col := [⟨.int .u32, 1, a⟩]
def cB (a : E) : List Col := [⟨.int .u8, 1, a⟩]
def cL (a : E) : List Col := [⟨.int .u64, 1, a⟩]
/-- A machine of 32 bits: its state, its constants. -/
def machRow (b h k : Nat) : Ck := .row b true ([.vv h, .vv k] ++ [4, 2, 13, 22, 6, 11, 25, 7, 18, 3, 17, 19, 10].map fun n : Int => .int .i64 (.lit n))
def blockHp : List Ck := [machRow 0 0 1, .sli true 0 107 1 (.lit 8) (cW (.avar 0)), .sli true 1 107 1 (.lit 64) (cW (.avar 1)), .sli true 2 5 1 (.var 0) (cB (.avar 2))]
def ints (k : IntKind) (i : Nat) : Nat → List SV
  | 0 => []
  | n + 1 => .int k (.var i) :: ints k (i + 1) n
def hpW (c : Cnt) (h : List Ck) : List Ck :=
  match h with
  | [m, hh, k, r, .sli md v t s n _] => [m, hh, k, r, .sli md v t s n (cW (.avar c.a))]
  | h => h
def hpX (c : Cnt) (h : List Ck) : List Ck :=
  match h with
  | [m, hh, k, r, w, .row b wr _] => [m, hh, k, r, w, .row b wr (ints .u32 c.i 8)]
  | h => h
def hpH (c : Cnt) (h : List Ck) : List Ck :=
  match h with
  | m :: .sli md v t s n _ :: k :: r :: w :: .row b wr _ :: q => m :: .sli md v t s n (cW (.avar c.a)) :: k :: r :: w :: .row b wr [.seg .u32 8 (.avar (c.a + 1))] :: q
  | h => h
/-- The last slice of a heap is told otherwise. -/
def lastSli (ck : Ck) (h : List Ck) : List Ck :=
  match h.reverse.findIdx? (fun | .sli .. => true | _ => false) with
  | some i => (h.reverse.set i ck).reverse
  | none => []
/-- The first row of eight cells is told otherwise. -/
def rowAt8 (cs : List SV) : List Ck → List Ck
  | [] => []
  | .row b w x :: r => if SV.widthL x = 8 then .row b w cs :: r else .row b w x :: rowAt8 cs r
  | c :: r => c :: rowAt8 cs r
def loops (f id : Nat) : Option LoopAnn :=
  match f, id with
  | 130, 0 => some { inc := { i := 2 }, slots := fun c => [(3, .int .u64 (.var c.i)), (4, .int .i64 (.var (c.i + 1)))], hp := fun _ h => h }
  | 127, 0 => some { inc := { i := 1, a := 1 }, slots := fun c => [(25, .int .i64 (.var c.i))], hp := hpW }
  | 127, 2 => some { inc := { i := 1, a := 1 }, slots := fun c => [(6, .int .i64 (.var c.i))], hp := hpW }
  | 127, 4 => some { inc := { i := 9 }, slots := fun c => [(110, .int .i64 (.var (c.i + 8)))], hp := hpX }
  | 113, 2 => some { inc := { i := 9 }, slots := fun c => [(11, .int .i64 (.var (c.i + 8)))], hp := fun c h => rowAt8 (ints .u64 c.i 8) h }
  | 113, 4 => some { pre := [.slot 12 70], inc := { i := 1, v := 1, a := 1 }, slots := fun c => [(13, .int .i64 (.var c.i)), (12, .vv c.v)], hp := fun c h => lastSli (.sli true c.v 70 1 (.var c.i) (cL (.avar c.a))) h }
  | 113, 14 => some { pre := [.slot 20 5], inc := { i := 2, v := 1, a := 2 }, slots := fun c => [(21, .int .i64 (.var c.i)), (20, .vv c.v)], hp := fun c h => rowAt8 [.seg .u64 8 (.avar (c.a + 1))] (lastSli (.sli true c.v 5 1 (.var (c.i + 1)) (cB (.avar c.a))) h) }
  | 113, 8 => some { inc := { i := 1, v := 1, a := 1 }, slots := fun c => [(16, .int .i64 (.var c.i)), (12, .vv c.v)], hp := fun c h => lastSli (.sli true c.v 70 1 (.var c.i) (cL (.avar c.a))) h }
  | 113, 10 => some { inc := { i := 1, v := 1, a := 1 }, slots := fun c => [(18, .int .i64 (.var c.i)), (17, .vv c.v)], hp := fun c h => lastSli (.sli true c.v 70 1 (.lit 8) (cL (.avar c.a))) h }
  | 127, 6 => some { inc := { i := 1, a := 2 }, slots := fun c => [(189, .int .i64 (.var c.i))], hp := hpH }
  | _, _ => none
/-- The chunks that a block is taken in by: the machine, its two slices, the text. -/
def useBlock (as : List SV) (hp : List Ck) : List Nat :=
  match as with
  | [.ptr b 0, .vsub v _ _] =>
    match findAt hp b, findOwn hp v with
    | some (j, .row _ _ (.vv h :: .vv k :: _)), some (r, _) =>
      match findOwn hp h, findOwn hp k with
      | some (x, _), some (y, _) => [j, x, y, r]
      | _, _ => []
    | _, _ => []
  | _ => []
def newBlock (c : Cnt) (h : List Ck) : List Ck :=
  match h with
  | [m, .sli md v t s n _, k, r] => [m, .sli md v t s n (cW (.avar c.a)), k, r]
  | h => h
def useVv (as : List SV) (hp : List Ck) : List Nat :=
  match as with
  | .vv v :: _ => match findOwn hp v with
    | some (j, _) => [j]
    | none => []
  | _ => []
/-- The rows of a list of slices, and its own. -/
def rowsOf (hp : List Ck) : List SV → List Nat
  | [] => []
  | .sl b _ _ _ _ :: r => match findAt hp b with
    | some (j, _) => j :: rowsOf hp r
    | none => []
  | _ :: _ => []
def useRows (as : List SV) (hp : List Ck) : List Nat :=
  match as with
  | [.sl b _ _ _ _] => match findAt hp b with
    | some (j, .row _ _ cs) => rowsOf hp cs ++ [j]
    | _ => []
  | _ => []
def sumHp : List Ck := [
  .row 0 false ([104, 97, 105, 108, 101, 114, 32, 109, 101, 100, 105, 97].map fun n : Int => .int .u8 (.lit n)),
  .row 1 true [.seg .u8 16 (.avar 0)], .row 2 true [.seg .u8 32 (.avar 1)], .row 3 true [.seg .u8 32 (.avar 2)],
  .row 4 true [.int .u8 (.var 0), .int .u8 (.var 1), .int .u8 (.var 2), .int .u8 (.var 3)],
  .row 5 true [.sl 0 (.lit 0) 1 (.lit 12) (.lit 12), .sl 1 (.lit 0) 1 (.lit 16) (.lit 16), .sl 2 (.lit 0) 1 (.lit 32) (.lit 32), .sl 3 (.lit 0) 1 (.lit 32) (.lit 32), .sl 4 (.lit 0) 1 (.lit 4) (.lit 4)]]
def four : CallAnn := { use := fun _ _ => [], inc := { i := 1 }, val := fun c => .int .u64 (.var c.i), new := fun _ _ => [] }
def powOf : List SV → SV
  | [.int _ (.lit n)] => .int .u64 (.lit (2 ^ n.toNat))
  | _ => .undef
def power : CallAnn := { use := fun _ _ => [], val := fun _ => .undef, new := fun _ _ => [], valOf := some powOf }
def calls (f s : Nat) : Option CallAnn :=
  match f, s with
  | 112, 46 => some { use := useBlock, inc := { a := 1 }, val := fun _ => .tup [], new := newBlock }
  | 112, 106 => some { use := useBlock, inc := { a := 1 }, val := fun _ => .tup [], new := newBlock }
  | 78, 3 => some { use := fun _ _ => [], inc := { b := 1, v := 2, a := 2 }, val := fun c => .ptr c.b 0, new := fun c _ => [.sli true c.v 107 1 (.lit 8) (cW (.avar c.a)), .sli true (c.v + 1) 107 1 (.lit 64) (cW (.avar (c.a + 1))), machRow c.b c.v (c.v + 1)] }
  | 44, 26 => some { use := useRows, inc := { a := 1 }, val := fun c => .agg [.seg .u8 32 (.avar c.a)], new := fun _ h => h }
  | 113, 26 => some { use := fun _ _ => [], inc := { v := 1, a := 1 }, val := fun c => .vv c.v, new := fun c _ => [.sli true c.v 70 1 (.lit 80) (cL (.avar c.a))] }
  | 113, 97 => some four
  | 113, 110 => some four
  | 113, 47 => some { use := useVv, inc := { v := 1, a := 1 }, val := fun c => .vv c.v, new := fun c h => h ++ [.sli true c.v 5 1 (.lit 128) (cB (.avar c.a))] }
  | 80, 7 => some { use := useVv, inc := { v := 1, a := 1 }, val := fun c => .vv c.v, new := fun c h => h ++ [.sli true c.v 5 1 (.lit 32) (cB (.avar c.a))] }
  | 113, 29 => some power
  | 113, 179 => some power
  | 141, 16 => some power
  | 143, 9 => some power
  | 143, 15 => some power
  | 132, 10 => some power
  | 134, 21 => some four
  | 134, 51 => some four
  | 113, 142 => some { use := useVv, inc := { v := 1, a := 1 }, val := fun c => .vv c.v, new := fun c _ => [.sli true c.v 70 1 (.lit 8) (cL (.avar c.a))] }
  | _, _ => none
end Go.RX.Sh
