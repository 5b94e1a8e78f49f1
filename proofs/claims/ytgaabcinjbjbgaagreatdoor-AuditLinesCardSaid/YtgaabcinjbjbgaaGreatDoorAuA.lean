/- What the executor is told of the calls and loops that AuditLines reaches. -/
import Derived.Test.YtgaabcinjbjbgaaGreatDoorRxD

namespace Go.RX.Au

/-- Where a byte stands first, or -1. -/
def idxFrom (c : UInt8) : Nat → List UInt8 → Int
  | _, [] => -1
  | i, b :: l => if b == c then (i : Int) else idxFrom c (i + 1) l
def idxB (l : List UInt8) (c : UInt8) : Int := idxFrom c 0 l
def pIndexByte (as : List SV) (_ : List Ck) : Option PRes :=
  match as with
  | [.str l, .int .u8 (.lit c)] => some { val := .int .i64 (.lit (idxB l c.toNat.toUInt8)) }
  | _ => none
def pCount (as : List SV) (_ : List Ck) : Option PRes :=
  match as with
  | [.str l, .str [c]] => some { val := .int .i64 (.lit (l.count c)) }
  | _ => none
def findBld (hp : List Ck) (b : Nat) : Option (Nat × Nat × Nat × E × E) :=
  match hp.findIdx? (fun c => match c with | .bld b' .. => b == b' | _ => false) with
  | some j => match hp[j]? with
    | some (.bld _ t e n a) => some (j, t, e, n, a)
    | _ => none
  | none => none
/-- (*strings.Builder).WriteByte. -/
def pWriteByte (as : List SV) (hp : List Ck) : Option PRes :=
  match as with
  | [.ptr b 0, .int .u8 c] =>
    match findBld hp b with
    | some (j, 93, 5, n, a) => some { val := .nili, vcs := bLe' (.lit 0) n ++ [bLe (eAdd n (.lit 1)) (.lit 140737488355328)], use := [j], new := [.bld b 93 5 (eAdd n (.lit 1)) (.upd a n c)] }
    | _ => none
  | _ => none
def bytesL (a : E) (n : Nat) : Option (List UInt8) :=
  match litsOf a n with
  | some l => if l.all (fun b => decide (0 ≤ b) && decide (b < 256)) then some (l.map fun b => UInt8.ofNat b.toNat) else none
  | none => none
/-- That numbers are bytes. -/
def byteVcs (a : E) (k : Nat) : List BE := ((List.range k).flatMap fun (j : Nat) => [bLe (.lit 0) (eSel a (.lit (j : Int))), bLe (eSel a (.lit (j : Int))) (.lit 255)]).filter fun b => b != .lit true
/-- (*strings.Builder).String, at bytes that are told: the builder is given up. -/
def pString (as : List SV) (hp : List Ck) : Option PRes :=
  match as with
  | [.ptr b 0] =>
    match findBld hp b with
    | some (j, 93, 5, .lit (.ofNat k), a) =>
      match bytesL a k with
      | some (x :: l) => some { val := .str (x :: l), use := [j], new := [] }
      | _ => if k = 0 then none else some { val := .strE (eBytes a (.lit k)), vcs := byteVcs a k, use := [j], new := [] }
    | _ => none
  | _ => none
def strsOf : List SV → Option (List (List UInt8))
  | [] => some []
  | .str l :: r => (strsOf r).map (l :: ·)
  | _ => none
def joinL (sep : List UInt8) : List (List UInt8) → List UInt8
  | [] => []
  | [x] => x
  | x :: r => x ++ sep ++ joinL sep r
/-- strings.Join, at strings that are told. -/
def pJoin (as : List SV) (hp : List Ck) : Option PRes :=
  match as with
  | [.sl b (.lit 0) 1 (.lit (.ofNat n)) (.lit (.ofNat m)), .str sep] =>
    match findAt hp b with
    | some (j, .row b' wr cs) =>
      match strsOf cs with
      | some xs => if xs.length = n ∧ n ≤ m ∧ n ≤ 1000 ∧ (joinL sep xs).length ≤ 1000000 then some { val := .str (joinL sep xs), use := [j], new := [.row b' wr cs] } else none
      | none => none
    | _ => none
  | _ => none
def pure (f : Nat) : Option (List SV → List Ck → Option PRes) :=
  match f with
  | 89 => some pIndexByte
  | 107 => some pCount
  | 53 => some pWriteByte
  | 47 => some pString
  | 38 => some pJoin
  | _ => none
def openF : List SV := [.int .u8 (.lit 7), .int .i64 (.lit 1), .int .u8 (.lit 0), .int .u8 (.lit 0), .seg .u8 16 (.lit 0)]
def zeroF : List SV := [.int .u8 (.lit 0), .int .i64 (.lit 0), .int .u8 (.lit 0), .int .u8 (.lit 0), .seg .u8 16 (.lit 0)]
def openS : List UInt8 := [111, 112, 101, 110, 32, 49, 32, 48, 47, 48, 32, 48, 48, 48, 48, 48, 48, 48, 48, 48, 48, 48, 48, 48, 48, 48, 48, 48, 48, 48, 48, 48, 48, 48, 48, 48, 48, 48, 48, 48, 48, 48, 48]
def badS : List UInt8 := [111, 112, 101, 110, 32, 48, 49, 32, 48, 47, 48, 32, 48, 48, 48, 48, 48, 48, 48, 48, 48, 48, 48, 48, 48, 48, 48, 48, 48, 48, 48, 48, 48, 48, 48, 48, 48, 48, 48, 48, 48, 48, 48, 48]
/-- audit.Line at the finding that the chapter's row is of. -/
def pLine (as : List SV) (_ : List Ck) : Option PRes :=
  match as with
  | [.agg cs] => if litSame (expandR cs) (expandR openF) then some { val := .tup [.str openS, .bool (.lit true)] } else none
  | _ => none
/-- audit.Read at the two lines. -/
def pRead (as : List SV) (_ : List Ck) : Option PRes :=
  match as with
  | [.str l] => if l == openS then some { val := .tup [.agg openF, .int .i64 (.lit 0)] } else if l == badS then some { val := .tup [.agg zeroF, .int .i64 (.lit 2)] } else none
  | _ => none
def pure1 (f : Nat) : Option (List SV → List Ck → Option PRes) :=
  match f with
  | 22 => some pLine
  | 24 => some pRead
  | f => pure f
end Go.RX.Au

namespace Go.RX.Au
/-- The chunks that these slots lead to. -/
def slotIdx (st : St) (s : Nat) : List Nat :=
  match look st.fr s with
  | some (.ptr b _) => match findAt st.hp b with | some (j, _) => [j] | none => []
  | some (.vv v) => match findOwn st.hp v with | some (j, _) => [j] | none => []
  | _ => []
def keepSlots (ss : List Nat) (st : St) : Option GhostStep := some { pick := some (ss.flatMap (slotIdx st)) }
/-- As a ghost step behind a region: once. -/
def keepOnce (ss : List Nat) (st : St) : Option GhostStep := keepSlots ss st
def finding (v : Nat) (k a d e : Int) (id : List Int) : Ck :=
  .sli true v 62 20 (.lit 1) [⟨.int .u8, 1, .rowl [k]⟩, ⟨.int .i64, 1, .rowl [a]⟩, ⟨.int .u8, 1, .rowl [d]⟩, ⟨.int .u8, 1, .rowl [e]⟩, ⟨.int .u8, 16, .rowl id⟩]
def joins (f id : Nat) : Option JoinAnn :=
  match f, id with
  | 21, 100008 => some { inc := { v := 1 }, slots := fun c => [(7, .vv c.v)], hp := fun c h => h ++ [finding c.v 1 0 1 0 [7]], gh := keepSlots [3, 4, 5, 6, 7] }
  | 21, 100009 => some { inc := { v := 1 }, slots := fun c => [(8, .vv c.v)], hp := fun c h => h ++ [finding c.v 7 1 0 0 []], gh := keepSlots [3, 4, 5, 6, 7, 8] }
  | 21, 100010 => some { inc := { v := 1 }, slots := fun c => [(9, .vv c.v)], hp := fun c h => h ++ [finding c.v 3 0 0 0 [7]], gh := keepSlots [3, 4, 5, 6, 7, 8, 9] }
  | 21, 100011 => some { slots := fun _ => [(10, .nils)], hp := fun _ h => h, gh := keepSlots [3, 4, 5, 6, 7, 8, 9] }
  | _, _ => none
def ghosts (f id : Nat) : Option (St → Option GhostStep) :=
  match f, id with
  | 21, 7 => some (keepOnce [3, 4, 5, 6])
  | _, _ => none
end Go.RX.Au

namespace Go.RX.Lp
open Go.RX
/-- The chunk that says what is laid. -/
def absIdx (hp : List Ck) : List Nat :=
  match hp.findIdx? (fun c => match c with | .abs _ => true | _ => false) with
  | some i => [i]
  | none => []
def rowIdx (as : List SV) (hp : List Ck) : List Nat :=
  match as with
  | .sl b _ _ _ _ :: _ => match hp.findIdx? (fun c => match c with | .row b' .. => b == b' | _ => false) with
    | some i => [i]
    | none => []
  | _ => []
/-- A call that answers a string. -/
def strCall : CallAnn := { use := fun _ hp => absIdx hp, inc := { a := 1 }, val := fun c => .strE (.avar c.a), new := fun _ h => h }
def joinCall : CallAnn := { use := fun as hp => rowIdx as hp, inc := { a := 1 }, val := fun c => .strE (.avar c.a), new := fun _ h => h }
def callsL (f d : Nat) : Option CallAnn :=
  match f, d with
  | 22, 47 => some strCall
  | 22, 52 => some strCall
  | 22, 58 => some strCall
  | 22, 62 => some joinCall
  | _, _ => none
end Go.RX.Lp

namespace Go.RX.Ac
open Go.RX
def fCols : List Col := [⟨.int .u8, 1, .avar 0⟩, ⟨.int .i64, 1, .avar 1⟩, ⟨.int .u8, 1, .avar 2⟩, ⟨.int .u8, 1, .avar 3⟩, ⟨.int .u8, 16, .avar 4⟩]
def hp6 (c : Cnt) (h : List Ck) : List Ck :=
  match h with
  | [a, .row b w [.seg k n _]] => [a, .row b w [.seg k n (.avar c.a)]]
  | h => h
/-- The last row of eight numbers is another. -/
def last8 (x : E) : List Ck → List Ck
  | [] => []
  | .row b w [.seg .i64 8 y] :: r => if r.any (fun c => match c with | .row _ _ [.seg .i64 8 _] => true | _ => false) then .row b w [.seg .i64 8 y] :: last8 x r else .row b w [.seg .i64 8 x] :: r
  | c :: r => c :: last8 x r
def loops (f id : Nat) : Option LoopAnn :=
  match f, id with
  | 6, 0 => some { inc := { i := 1, a := 1 }, slots := fun c => [(13, .int .i64 (.var c.i))], hp := hp6 }
  | 60, 0 => some { inc := { i := 1, a := 1 }, slots := fun c => [(7, .int .i64 (.var c.i))], hp := fun c h => last8 (.avar c.a) h }
  | _, _ => none
def pKnown (as : List SV) (_ : List Ck) : Option PRes :=
  match as with
  | [] => some { val := .bool (.lit true) }
  | _ => none
def pure (f : Nat) : Option (List SV → List Ck → Option PRes) :=
  match f with
  | 21 => some pKnown
  | _ => none
end Go.RX.Ac

namespace Go.RX.Lw
open Go.RX Go.RX.Lp
def find (c : Cnt) : SV := .agg [.int .u8 (.var c.i), .int .i64 (.var (c.i + 1)), .int .u8 (.var (c.i + 2)), .int .u8 (.var (c.i + 3)), .seg .u8 16 (.avar c.a)]
def lineCall : CallAnn := { use := fun _ hp => absIdx hp, inc := { a := 1, bo := 1 }, val := fun c => .tup [.strE (.avar c.a), .bool (.var c.bo)], new := fun _ h => h }
def rlineCall : CallAnn := { use := fun _ _ => [], inc := { a := 1 }, val := fun c => .strE (.avar c.a), new := fun _ h => h }
def readCall : CallAnn := { use := fun _ hp => absIdx hp, inc := { i := 5, a := 1 }, val := fun c => .tup [find c, .int .i64 (.var (c.i + 4))], new := fun _ h => h }
def rreadCall : CallAnn := { use := fun _ _ => [], inc := { i := 4, a := 1, bo := 1 }, val := fun c => .tup [find c, .bool (.var c.bo)], new := fun _ h => h }
def calls (f d : Nat) : Option CallAnn :=
  match f, d with
  | 5, 25 => some lineCall
  | 5, 29 => some rlineCall
  | 5, 32 => some readCall
  | 5, 37 => some rreadCall
  | 5, 72 => some readCall
  | _, _ => none
end Go.RX.Lw

namespace Go.RX.Lq
open Go.RX Go.RX.Lp
def wordsS : List SV := [.str [101, 118, 101, 110, 116], .str [98, 121, 116, 101, 115], .str [109, 105, 115, 115, 105, 110, 103], .str [117, 110, 108, 105, 107, 101], .str [109, 111, 114, 101], .str [111, 114, 100, 101, 114], .str [111, 112, 101, 110]]
/-- strings.Split: a new slice of strings. -/
def splitCall : CallAnn := { use := fun _ hp => absIdx hp, inc := { v := 1, i := 1, a := 1 }, val := fun c => .vv c.v, new := fun c h => h ++ [.sli true c.v 9 1 (.var c.i) [⟨.str, 1, .avar c.a⟩]] }
/-- The same, of the kinds' words. -/
def wordsCall : CallAnn := { use := fun _ hp => absIdx hp, inc := { b := 1 }, val := fun c => .sl c.b (.lit 0) 1 (.lit 7) (.lit 7), new := fun c h => h ++ [.row c.b true wordsS] }
def indexCall : CallAnn := { use := fun as hp => rowIdx as hp, inc := { i := 1 }, val := fun c => .int .i64 (.var c.i), new := fun _ h => h }
def cutCall : CallAnn := { use := fun _ hp => absIdx hp, inc := { a := 2, bo := 1 }, val := fun c => .tup [.strE (.avar c.a), .strE (.avar (c.a + 1)), .bool (.var c.bo)], new := fun _ h => h }
def numCall : CallAnn := { use := fun _ hp => absIdx hp, inc := { i := 1, bo := 1 }, val := fun c => .tup [.int .i64 (.var c.i), .bool (.var c.bo)], new := fun _ h => h }
def byteCall : CallAnn := { use := fun _ _ => [], inc := { i := 1 }, val := fun c => .int .i64 (.var c.i), new := fun _ h => h }
def calls (f d : Nat) : Option CallAnn :=
  match f, d with
  | 24, 20 => some splitCall
  | 24, 32 => some wordsCall
  | 24, 36 => some indexCall
  | 24, 44 => some cutCall
  | 24, 52 => some numCall
  | 24, 57 => some numCall
  | 24, 62 => some numCall
  | 24, 94 => some byteCall
  | 24, 102 => some byteCall
  | _, _ => none
/-- The record's bytes are told anew. -/
def idRow (c : Cnt) : Ck → Ck
  | .row b w [.int k' (.lit m), y, z, u, s] => .row b w [.int k' (.lit m), y, z, u, s]
  | .row b w [x, y, z, u, .seg k n _] => .row b w [x, y, z, u, .seg k n (.avar c.a)]
  | h => h
def loops (f id : Nat) : Option LoopAnn :=
  match f, id with
  | 24, 0 => some { inc := { i := 1, bo := 1, a := 1 }, slots := fun c => [(85, .int .i64 (.var c.i)), (15, .bool (.var c.bo))], hp := fun c h => h.map (idRow c) }
  | _, _ => none
end Go.RX.Lq

namespace Go.RX.Lu
open Go.RX
def loops (f id : Nat) : Option LoopAnn :=
  match f, id with
  | 110, 3 => some { inc := { i := 2 }, slots := fun c => [(101, .int .i64 (.var c.i)), (13, .int .u64 (.var (c.i + 1))), (12, .bool (.lit false))] }
  | _, _ => none
end Go.RX.Lu

namespace Go.RX.Lf
open Go.RX Go.RX.Lp
def smallCall : CallAnn := { use := fun _ _ => [], inc := { a := 1 }, val := fun c => .strE (.avar c.a), new := fun _ h => h }
def numCall : CallAnn := { use := fun _ hp => absIdx hp, inc := { i := 1 }, val := fun c => .int .i64 (.var c.i), new := fun _ h => h }
def fmtCall : CallAnn := { use := fun as hp => rowIdx as hp, inc := { a := 1 }, val := fun _ => .tup [], new := fun c h => match h with | [.row b w _] => [.row b w [.seg .u8 24 (.avar c.a)]] | h => h }
def okCall : CallAnn := { use := fun _ _ => [], inc := { i := 1 }, val := fun c => .tup [.int .u64 (.var c.i), .nili], new := fun _ h => h }
def errCall : CallAnn := { use := fun _ _ => [], inc := { i := 2 }, val := fun c => .tup [.int .u64 (.var c.i), .ifl 231 .i64 (.var (c.i + 1))], new := fun _ h => h }
def toErrCall : CallAnn := { use := fun _ hp => absIdx hp, inc := { v := 1 }, val := fun c => .ifv (.lit true) c.v, new := fun _ h => h }
def parseCall : CallAnn := { use := fun _ hp => absIdx hp, inc := { i := 1, bo := 1, v := 1 }, val := fun c => .tup [.int .u64 (.var c.i), .ifv (.var c.bo) c.v], new := fun _ h => h }
def callsF (f d : Nat) : Option CallAnn :=
  match f, d with
  | 93, 15 => some smallCall
  | 93, 17 => some numCall
  | 93, 21 => some fmtCall
  | _, _ => none
def callsOk (f d : Nat) : Option CallAnn :=
  match f, d with
  | 88, 14 => some okCall
  | _, _ => none
def callsErr (f d : Nat) : Option CallAnn :=
  match f, d with
  | 88, 14 => some errCall
  | 88, 24 => some toErrCall
  | _, _ => none
def callsN (f d : Nat) : Option CallAnn :=
  match f, d with
  | 57, 11 => some parseCall
  | 57, 20 => some strCall
  | _, _ => none
end Go.RX.Lf

namespace Go.RX.Ln
open Go.RX
/-- A call that answers a string, and touches no memory. -/
def strCall : CallAnn := { use := fun _ _ => [], inc := { a := 1 }, val := fun c => .strE (.avar c.a), new := fun _ _ => [] }
def numCall : CallAnn := { use := fun _ _ => [], inc := { i := 2 }, val := fun c => .tup [.int .i64 (.var c.i), .int .i64 (.var (c.i + 1))], new := fun _ _ => [] }
/-- The document's side: numbers, lines. -/
def callsA (f d : Nat) : Option CallAnn :=
  match f, d with
  | 54, 15 => some strCall
  | 23, 50 => some strCall
  | 23, 57 => some strCall
  | 23, 64 => some strCall
  | _, _ => none
def callsB (f d : Nat) : Option CallAnn :=
  match f, d with
  | 25, 52 => some numCall
  | 25, 60 => some numCall
  | 25, 67 => some numCall
  | 25, 128 => some strCall
  | _, _ => none
/-- The record that is read, at its kind. -/
def hpKind (c : Cnt) (h : List Ck) : List Ck :=
  match h with
  | r :: .row b w (_ :: rest) :: _ => [r, .row b w (.int .u8 (.var (c.i + 1)) :: rest)]
  | h => h
def hpId (c : Cnt) (h : List Ck) : List Ck :=
  match h with
  | r :: .row b w [x, y, z, u, .seg k n _] :: rest => r :: .row b w [x, y, z, u, .seg k n (.avar c.a)] :: rest
  | h => h
def joinsB (f id : Nat) : Option JoinAnn :=
  match f, id with
  | 25, 0 => some { inc := { i := 2 }, slots := fun c => [(5, .int .i64 (.var c.i))], hp := hpKind }
  | _, _ => none
def loops (f id : Nat) : Option LoopAnn :=
  match f, id with
  | 59, 0 => some { inc := { i := 2 }, slots := fun c => [(8, .int .i64 (.var c.i)), (1, .int .i64 (.var (c.i + 1)))] }
  | 25, 4 => some { inc := { i := 1, a := 1 }, slots := fun c => [(11, .int .i64 (.var c.i))], hp := hpId }
  | _, _ => none
end Go.RX.Ln
