/- What the executor is told of the calls that CallMedia and CallKnown reach. -/
import Derived.Test.YtphemenngjkfbaaShAnn
namespace Go.RX.Md
open Go.RX
/-- The key of a media stream, the program's and the document's. -/
def media : CallAnn := { use := fun _ _ => [], inc := { a := 1 }, val := fun c => .agg [.seg .u8 32 (.avar c.a)], new := fun _ _ => [] }
def calls (f s : Nat) : Option CallAnn :=
  match f, s with
  | 9, 40 => some { use := fun _ _ => [], val := fun _ => .bool (.lit true), new := fun _ _ => [] }
  | 9, 16 => some media
  | 9, 22 => some media
  | 9, 30 => some media
  | 9, 36 => some media
  | 88, 60 => some media
  | 97, 30 => some media
  | 46, 183 => some media
  | f, s => Sh.calls f s
end Go.RX.Md
