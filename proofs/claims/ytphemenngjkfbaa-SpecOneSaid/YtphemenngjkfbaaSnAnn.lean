/- What the executor is told of spec.New and of Answerer. -/
import Derived.Test.YtphemenngjkfbaaSlAnn
namespace Go.RX.Sn
open Go.RX Go.RX.So Go.RX.Sl
def hpN (c : Cnt) (h : List Ck) : List Ck := h.map fun
  | .map b [.u8, .u8] ka va z _ [⟨k, w, _⟩] => .map b [.u8, .u8] ka va z (.avar c.a) [⟨k, w, .avar (c.a + 1)⟩]
  | .abs _ => .abs c.p
  | k => k
def loops (f id : Nat) : Option LoopAnn :=
  match f, id with
  | 35, 0 => some { inc := { i := 1, a := 2, p := 1 }, slots := fun c => [(13, .int .i64 (.var c.i))], hp := hpN }
  | 35, 2 => some { inc := { i := 1, a := 2, p := 1 }, slots := fun c => [(6, .int .u8 (.var c.i))], hp := hpN }
  | _, _ => none
/-- No device yet. -/
def none0 (st : St) : Option GhostStep := some { inc := { p := 1 }, new := [.abs st.cnt.p] }
/-- A device more. -/
def more (st : St) : Option GhostStep :=
  match st.hp.findIdx? isAbs with
  | some j => some { use := [j, st.hp.length - 1, st.hp.length - 2], inc := { p := 1 }, new := [.abs st.cnt.p] }
  | none => none
def ghosts (f r : Nat) : Option (St → Option GhostStep) :=
  match f, r with
  | 35, 2 => some none0
  | 35, 8 => some more
  | _, _ => none
def newArgs : List SV := [.agg [.seg .u8 8 (.avar 0)]]
def idV : SV := .agg [.seg .u8 16 (.avar 0)]
def ansHp0 : List Ck := [sysRow, mapC (.upd (.avar 15) keyI (.lit 0)) (.upd (.avar 16) keyI (.lit 0))]
def ansHp1 : List Ck := [sysRow, mapC (.upd (.avar 15) keyI (.lit 1)) (.upd (.avar 16) keyI (.blk 5))] ++ callHp
end Go.RX.Sn
