/- Where the ways of 'known' meet again: for the executor. -/
import Derived.Test.YtgaabcinjbjbgaaGreatDoorRxD

namespace Go.RX.Au

/-- Where a byte stands first, or -1. -/
def idxFrom (c : UInt8) : Nat → List UInt8 → Int
  | _, [] => -1
  | i, b :: l => if b == c then (i : Int) else idxFrom c (i + 1) l
def idxB (l : List UInt8) (c : UInt8) : Int := idxFrom c 0 l
def pIndexByte (as : List SV) (_ : List Ck) : Option PRes :=
  match as with
  | [.str l, .int .u8 (.lit c)] => some { val := .int .i64 (.lit (idxB l c.toNat.toUInt8)) }
  | _ => none
def pCount (as : List SV) (_ : List Ck) : Option PRes :=
  match as with
  | [.str l, .str [c]] => some { val := .int .i64 (.lit (l.count c)) }
  | _ => none
def findBld (hp : List Ck) (b : Nat) : Option (Nat × Nat × Nat × E × E) :=
  match hp.findIdx? (fun c => match c with | .bld b' .. => b == b' | _ => false) with
  | some j => match hp[j]? with
    | some (.bld _ t e n a) => some (j, t, e, n, a)
    | _ => none
  | none => none
/-- (*strings.Builder).WriteByte. -/
def pWriteByte (as : List SV) (hp : List Ck) : Option PRes :=
  match as with
  | [.ptr b 0, .int .u8 c] =>
    match findBld hp b with
    | some (j, 93, 5, n, a) => some { val := .nili, vcs := bLe' (.lit 0) n ++ [bLe (eAdd n (.lit 1)) (.lit 140737488355328)], use := [j], new := [.bld b 93 5 (eAdd n (.lit 1)) (.upd a n c)] }
    | _ => none
  | _ => none
def bytesL (a : E) (n : Nat) : Option (List UInt8) :=
  match litsOf a n with
  | some l => if l.all (fun b => decide (0 ≤ b) && decide (b < 256)) then some (l.map fun b => UInt8.ofNat b.toNat) else none
  | none => none
/-- (*strings.Builder).String, at bytes that are told: the builder is given up. -/
def pString (as : List SV) (hp : List Ck) : Option PRes :=
  match as with
  | [.ptr b 0] =>
    match findBld hp b with
    | some (j, 93, 5, .lit (.ofNat k), a) =>
      match bytesL a k with
      | some (x :: l) => some { val := .str (x :: l), use := [j], new := [] }
      | _ => none
    | _ => none
  | _ => none
def strsOf : List SV → Option (List (List UInt8))
  | [] => some []
  | .str l :: r => (strsOf r).map (l :: ·)
  | _ => none
def joinL (sep : List UInt8) : List (List UInt8) → List UInt8
  | [] => []
  | [x] => x
  | x :: r => x ++ sep ++ joinL sep r
/-- strings.Join, at strings that are told. -/
def pJoin (as : List SV) (hp : List Ck) : Option PRes :=
  match as with
  | [.sl b (.lit 0) 1 (.lit (.ofNat n)) (.lit (.ofNat m)), .str sep] =>
    match findAt hp b with
    | some (j, .row b' wr cs) =>
      match strsOf cs with
      | some xs => if xs.length = n ∧ n ≤ m ∧ n ≤ 1000 ∧ (joinL sep xs).length ≤ 1000000 then some { val := .str (joinL sep xs), use := [j], new := [.row b' wr cs] } else none
      | none => none
    | _ => none
  | _ => none
def pure (f : Nat) : Option (List SV → List Ck → Option PRes) :=
  match f with
  | 89 => some pIndexByte
  | 107 => some pCount
  | 53 => some pWriteByte
  | 47 => some pString
  | 38 => some pJoin
  | _ => none
def openF : List SV := [.int .u8 (.lit 7), .int .i64 (.lit 1), .int .u8 (.lit 0), .int .u8 (.lit 0), .seg .u8 16 (.lit 0)]
def zeroF : List SV := [.int .u8 (.lit 0), .int .i64 (.lit 0), .int .u8 (.lit 0), .int .u8 (.lit 0), .seg .u8 16 (.lit 0)]
def openS : List UInt8 := [111, 112, 101, 110, 32, 49, 32, 48, 47, 48, 32, 48, 48, 48, 48, 48, 48, 48, 48, 48, 48, 48, 48, 48, 48, 48, 48, 48, 48, 48, 48, 48, 48, 48, 48, 48, 48, 48, 48, 48, 48, 48, 48]
def badS : List UInt8 := [111, 112, 101, 110, 32, 48, 49, 32, 48, 47, 48, 32, 48, 48, 48, 48, 48, 48, 48, 48, 48, 48, 48, 48, 48, 48, 48, 48, 48, 48, 48, 48, 48, 48, 48, 48, 48, 48, 48, 48, 48, 48, 48, 48]
/-- audit.Line at the finding that the chapter's row is of. -/
def pLine (as : List SV) (_ : List Ck) : Option PRes :=
  match as with
  | [.agg cs] => if litSame (expandR cs) (expandR openF) then some { val := .tup [.str openS, .bool (.lit true)] } else none
  | _ => none
/-- audit.Read at the two lines. -/
def pRead (as : List SV) (_ : List Ck) : Option PRes :=
  match as with
  | [.str l] => if l == openS then some { val := .tup [.agg openF, .int .i64 (.lit 0)] } else if l == badS then some { val := .tup [.agg zeroF, .int .i64 (.lit 2)] } else none
  | _ => none
def pure1 (f : Nat) : Option (List SV → List Ck → Option PRes) :=
  match f with
  | 22 => some pLine
  | 24 => some pRead
  | f => pure f
end Go.RX.Au

namespace Go.RX.Au
/-- The chunks that these slots lead to. -/
def slotIdx (st : St) (s : Nat) : List Nat :=
  match look st.fr s with
  | some (.ptr b _) => match findAt st.hp b with | some (j, _) => [j] | none => []
  | some (.vv v) => match findOwn st.hp v with | some (j, _) => [j] | none => []
  | _ => []
def keepSlots (ss : List Nat) (st : St) : Option GhostStep := some { pick := some (ss.flatMap (slotIdx st)) }
/-- As a ghost step behind a region: once. -/
def keepOnce (ss : List Nat) (st : St) : Option GhostStep := keepSlots ss st
def finding (v : Nat) (k a d e : Int) (id : List Int) : Ck :=
  .sli true v 62 20 (.lit 1) [⟨.int .u8, 1, .rowl [k]⟩, ⟨.int .i64, 1, .rowl [a]⟩, ⟨.int .u8, 1, .rowl [d]⟩, ⟨.int .u8, 1, .rowl [e]⟩, ⟨.int .u8, 16, .rowl id⟩]
def joins (f id : Nat) : Option JoinAnn :=
  match f, id with
  | 21, 100008 => some { inc := { v := 1 }, slots := fun c => [(7, .vv c.v)], hp := fun c h => h ++ [finding c.v 1 0 1 0 [7]], gh := keepSlots [3, 4, 5, 6, 7] }
  | 21, 100009 => some { inc := { v := 1 }, slots := fun c => [(8, .vv c.v)], hp := fun c h => h ++ [finding c.v 7 1 0 0 []], gh := keepSlots [3, 4, 5, 6, 7, 8] }
  | 21, 100010 => some { inc := { v := 1 }, slots := fun c => [(9, .vv c.v)], hp := fun c h => h ++ [finding c.v 3 0 0 0 [7]], gh := keepSlots [3, 4, 5, 6, 7, 8, 9] }
  | 21, 100011 => some { slots := fun _ => [(10, .nils)], hp := fun _ h => h, gh := keepSlots [3, 4, 5, 6, 7, 8, 9] }
  | _, _ => none
def ghosts (f id : Nat) : Option (St → Option GhostStep) :=
  match f, id with
  | 21, 7 => some (keepOnce [3, 4, 5, 6])
  | _, _ => none
end Go.RX.Au
