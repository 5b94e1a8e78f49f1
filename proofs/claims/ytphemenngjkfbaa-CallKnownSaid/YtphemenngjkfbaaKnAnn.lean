/- What the executor is told of the calls that CallKnown reaches. -/
import Derived.Test.YtphemenngjkfbaaMdAnn
namespace Go.RX.Kn
open Go.RX
/-- The rows that two slices lie in. -/
def useTwo (vs : List SV) (hp : List Ck) : List Nat :=
  match vs with
  | [.sl a _ _ _ _, .sl b _ _ _ _] => match findAt hp a, findAt hp b with
    | some (i, _), some (j, _) => [i, j]
    | _, _ => []
  | _ => []
def cmp : CallAnn := { use := useTwo, inc := { i := 1 }, val := fun c => .int .i64 (.var c.i), new := fun _ h => h }
def calls (f s : Nat) : Option CallAnn :=
  match f, s with
  | 10, 38 => some { use := fun _ _ => [], val := fun _ => .bool (.lit true), new := fun _ _ => [] }
  | 87, 81 => some cmp
  | f, s => Md.calls f s
end Go.RX.Kn
