/- What the executor is told of the loops and calls that SpecOne reaches. -/
import Derived.Test.YtphemenngjkfbaaRxD
namespace Go.RX.So
open Go.RX
def useVv (l : List SV) (hp : List Ck) : List Nat :=
  match l with
  | .vv v :: _ => match findOwn hp v with
    | some (j, _) => [j]
    | none => []
  | _ => []
/-- Whether a device is among others. -/
def contains : CallAnn := { use := useVv, inc := { bo := 1 }, val := fun c => .bool (.var c.bo), new := fun _ h => h }
def calls (f s : Nat) : Option CallAnn :=
  match f, s with
  | 108, 27 => some contains
  | 122, 7 => some { use := useVv, inc := { i := 1 }, val := fun c => .int .i64 (.var c.i), new := fun _ h => h }
  | _, _ => none
def loops (f id : Nat) : Option LoopAnn :=
  match f, id with
  | 138, 0 => some { inc := { i := 1 }, slots := fun c => [(8, .int .i64 (.var c.i))] }
  | _, _ => none
def u8 (i : Nat) : SV := .int .u8 (.var i)
/-- The event, by value. -/
def evV : SV := .agg [u8 0, u8 1, u8 2, .int .u64 (.var 3), .seg .u8 16 (.avar 0), u8 4, u8 5, u8 6, .seg .u8 32 (.avar 1), u8 7]
def keyD : E := .kc 2 (.upd (.upd (.lit 0) (.lit 0) (.var 1)) (.lit 1) (.var 2))
def keyI : E := .kc 16 (.avar 0)
def k16 : List IntKind := List.replicate 16 .u8
def sysRow : Ck := .row 0 true [.seg .u8 8 (.avar 2), .mp 1, .mp 2, .int .u64 (.var 8)]
def mapC (has ptr : E) : Ck := .map 1 k16 true false [.nilp] has [⟨.ptr, 1, ptr⟩]
def mapD (has ptr : E) : Ck := .map 2 [.u8, .u8] true false [.nilp] has [⟨.ptr, 1, ptr⟩]
def recCols (o : Nat) : List Col := [⟨.int .u8, 16, .avar o⟩, ⟨.int .u8, 1, .avar (o + 1)⟩, ⟨.bool, 1, .avar (o + 2)⟩, ⟨.int .u8, 1, .avar (o + 3)⟩, ⟨.int .u64, 1, .avar (o + 4)⟩, ⟨.int .u64, 1, .avar (o + 5)⟩, ⟨.int .u64, 1, .avar (o + 6)⟩]
/-- The device: its row, what it had, its records. -/
def devHp : List Ck := [
  .row 3 true [u8 9, .seg .u8 16 (.avar 3), .bool (.nz (.var 22)), u8 10, u8 11, u8 12, .int .u64 (.var 13), .int .u64 (.var 14), .mp 4, .vv 0],
  .map 4 k16 true true [] (.avar 4) [],
  .sli true 0 85 22 (.var 15) (recCols 5)]
def callHp : List Ck := [
  .row 5 true [u8 16, u8 17, u8 18, .vv 1, .bool (.var 1), .bool (.var 2), u8 20, u8 21, .bool (.var 3), .seg .u8 32 (.avar 14)],
  .sli true 1 30 2 (.var 19) [⟨.int .u8, 1, .avar 12⟩, ⟨.int .u8, 1, .avar 13⟩]]
def hpN : List Ck := [sysRow, mapC (.avar 15) (.avar 16), mapD (.upd (.avar 17) keyD (.lit 0)) (.upd (.avar 18) keyD (.lit 0))]
def hp0 : List Ck := [sysRow, mapC (.upd (.avar 15) keyI (.lit 0)) (.upd (.avar 16) keyI (.lit 0)), mapD (.upd (.avar 17) keyD (.lit 1)) (.upd (.avar 18) keyD (.blk 3))] ++ devHp
def hp1 : List Ck := [sysRow, mapC (.upd (.avar 15) keyI (.lit 1)) (.upd (.avar 16) keyI (.blk 5)), mapD (.upd (.avar 17) keyD (.lit 1)) (.upd (.avar 18) keyD (.blk 3))] ++ devHp ++ callHp
def cnt1 : Cnt := { b := 6, v := 2, i := 23, a := 19, bo := 4 }
end Go.RX.So
