/- What the executor is told of the loops that AuditCounts reaches. -/
import Derived.Test.YtgaabcinjbjbgaaGreatDoorAuA
namespace Go.RX.Ac
open Go.RX
def fCols : List Col := [⟨.int .u8, 1, .avar 0⟩, ⟨.int .i64, 1, .avar 1⟩, ⟨.int .u8, 1, .avar 2⟩, ⟨.int .u8, 1, .avar 3⟩, ⟨.int .u8, 16, .avar 4⟩]
def hp6 (c : Cnt) (h : List Ck) : List Ck :=
  match h with
  | [a, .row b w [.seg k n _]] => [a, .row b w [.seg k n (.avar c.a)]]
  | h => h
/-- The last row of eight numbers is another. -/
def last8 (x : E) : List Ck → List Ck
  | [] => []
  | .row b w [.seg .i64 8 y] :: r => if r.any (fun c => match c with | .row _ _ [.seg .i64 8 _] => true | _ => false) then .row b w [.seg .i64 8 y] :: last8 x r else .row b w [.seg .i64 8 x] :: r
  | c :: r => c :: last8 x r
def loops (f id : Nat) : Option LoopAnn :=
  match f, id with
  | 6, 0 => some { inc := { i := 1, a := 1 }, slots := fun c => [(13, .int .i64 (.var c.i))], hp := hp6 }
  | 60, 0 => some { inc := { i := 1, a := 1 }, slots := fun c => [(7, .int .i64 (.var c.i))], hp := fun c h => last8 (.avar c.a) h }
  | _, _ => none
def pKnown (as : List SV) (_ : List Ck) : Option PRes :=
  match as with
  | [] => some { val := .bool (.lit true) }
  | _ => none
def pure (f : Nat) : Option (List SV → List Ck → Option PRes) :=
  match f with
  | 21 => some pKnown
  | _ => none
end Go.RX.Ac
