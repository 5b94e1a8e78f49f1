/- What the executor is told of the calls and loops of the law ScriptPrints. -/
import Derived.Test.YtgaabcinjbjbgaaGreatDoorRxD
import Derived.Lib.ItoaNum
import Derived.Lib.ParseIntB
import Derived.Lib.AtoiAll

namespace Go.RX.Au

/-- Where a byte stands first, or -1. -/
def idxFrom (c : UInt8) : Nat → List UInt8 → Int
  | _, [] => -1
  | i, b :: l => if b == c then (i : Int) else idxFrom c (i + 1) l
def idxB (l : List UInt8) (c : UInt8) : Int := idxFrom c 0 l
def pIndexByte (as : List SV) (_ : List Ck) : Option PRes :=
  match as with
  | [.str l, .int .u8 (.lit c)] => some { val := .int .i64 (.lit (idxB l c.toNat.toUInt8)) }
  | _ => none
def pCount (as : List SV) (_ : List Ck) : Option PRes :=
  match as with
  | [.str l, .str [c]] => some { val := .int .i64 (.lit (l.count c)) }
  | _ => none
def findBld (hp : List Ck) (b : Nat) : Option (Nat × Nat × Nat × E × E) :=
  match hp.findIdx? (fun c => match c with | .bld b' .. => b == b' | _ => false) with
  | some j => match hp[j]? with
    | some (.bld _ t e n a) => some (j, t, e, n, a)
    | _ => none
  | none => none
/-- (*strings.Builder).WriteByte. -/
def pWriteByte (as : List SV) (hp : List Ck) : Option PRes :=
  match as with
  | [.ptr b 0, .int .u8 c] =>
    match findBld hp b with
    | some (j, 93, 5, n, a) => some { val := .nili, vcs := bLe' (.lit 0) n ++ [bLe (eAdd n (.lit 1)) (.lit 140737488355328)], use := [j], new := [.bld b 93 5 (eAdd n (.lit 1)) (.upd a n c)] }
    | _ => none
  | _ => none
def bytesL (a : E) (n : Nat) : Option (List UInt8) :=
  match litsOf a n with
  | some l => if l.all (fun b => decide (0 ≤ b) && decide (b < 256)) then some (l.map fun b => UInt8.ofNat b.toNat) else none
  | none => none
/-- That numbers are bytes. -/
def byteVcs (a : E) (k : Nat) : List BE := ((List.range k).flatMap fun (j : Nat) => [bLe (.lit 0) (eSel a (.lit (j : Int))), bLe (eSel a (.lit (j : Int))) (.lit 255)]).filter fun b => b != .lit true
/-- (*strings.Builder).String, at bytes that are told: the builder is given up. -/
def pString (as : List SV) (hp : List Ck) : Option PRes :=
  match as with
  | [.ptr b 0] =>
    match findBld hp b with
    | some (j, 93, 5, .lit (.ofNat k), a) =>
      match bytesL a k with
      | some (x :: l) => some { val := .str (x :: l), use := [j], new := [] }
      | _ => if k = 0 then none else some { val := .strE (eBytes a (.lit k)), vcs := byteVcs a k, use := [j], new := [] }
    | _ => none
  | _ => none
def strsOf : List SV → Option (List (List UInt8))
  | [] => some []
  | .str l :: r => (strsOf r).map (l :: ·)
  | _ => none
def joinL (sep : List UInt8) : List (List UInt8) → List UInt8
  | [] => []
  | [x] => x
  | x :: r => x ++ sep ++ joinL sep r
/-- strings.Join, at strings that are told. -/
def pJoin (as : List SV) (hp : List Ck) : Option PRes :=
  match as with
  | [.sl b (.lit 0) 1 (.lit (.ofNat n)) (.lit (.ofNat m)), .str sep] =>
    match findAt hp b with
    | some (j, .row b' wr cs) =>
      match strsOf cs with
      | some xs => if xs.length = n ∧ n ≤ m ∧ n ≤ 1000 ∧ (joinL sep xs).length ≤ 1000000 then some { val := .str (joinL sep xs), use := [j], new := [.row b' wr cs] } else none
      | none => none
    | _ => none
  | _ => none
def pure (f : Nat) : Option (List SV → List Ck → Option PRes) :=
  match f with
  | 89 => some pIndexByte
  | 107 => some pCount
  | 53 => some pWriteByte
  | 47 => some pString
  | 38 => some pJoin
  | _ => none
def openF : List SV := [.int .u8 (.lit 7), .int .i64 (.lit 1), .int .u8 (.lit 0), .int .u8 (.lit 0), .seg .u8 16 (.lit 0)]
def zeroF : List SV := [.int .u8 (.lit 0), .int .i64 (.lit 0), .int .u8 (.lit 0), .int .u8 (.lit 0), .seg .u8 16 (.lit 0)]
def openS : List UInt8 := [111, 112, 101, 110, 32, 49, 32, 48, 47, 48, 32, 48, 48, 48, 48, 48, 48, 48, 48, 48, 48, 48, 48, 48, 48, 48, 48, 48, 48, 48, 48, 48, 48, 48, 48, 48, 48, 48, 48, 48, 48, 48, 48]
def badS : List UInt8 := [111, 112, 101, 110, 32, 48, 49, 32, 48, 47, 48, 32, 48, 48, 48, 48, 48, 48, 48, 48, 48, 48, 48, 48, 48, 48, 48, 48, 48, 48, 48, 48, 48, 48, 48, 48, 48, 48, 48, 48, 48, 48, 48, 48]
/-- audit.Line at the finding that the chapter's row is of. -/
def pLine (as : List SV) (_ : List Ck) : Option PRes :=
  match as with
  | [.agg cs] => if litSame (expandR cs) (expandR openF) then some { val := .tup [.str openS, .bool (.lit true)] } else none
  | _ => none
/-- audit.Read at the two lines. -/
def pRead (as : List SV) (_ : List Ck) : Option PRes :=
  match as with
  | [.str l] => if l == openS then some { val := .tup [.agg openF, .int .i64 (.lit 0)] } else if l == badS then some { val := .tup [.agg zeroF, .int .i64 (.lit 2)] } else none
  | _ => none
def pure1 (f : Nat) : Option (List SV → List Ck → Option PRes) :=
  match f with
  | 22 => some pLine
  | 24 => some pRead
  | f => pure f
end Go.RX.Au

namespace Go.RX.Au
/-- The chunks that these slots lead to. -/
def slotIdx (st : St) (s : Nat) : List Nat :=
  match look st.fr s with
  | some (.ptr b _) => match findAt st.hp b with | some (j, _) => [j] | none => []
  | some (.vv v) => match findOwn st.hp v with | some (j, _) => [j] | none => []
  | _ => []
def keepSlots (ss : List Nat) (st : St) : Option GhostStep := some { pick := some (ss.flatMap (slotIdx st)) }
/-- As a ghost step behind a region: once. -/
def keepOnce (ss : List Nat) (st : St) : Option GhostStep := keepSlots ss st
def finding (v : Nat) (k a d e : Int) (id : List Int) : Ck :=
  .sli true v 62 20 (.lit 1) [⟨.int .u8, 1, .rowl [k]⟩, ⟨.int .i64, 1, .rowl [a]⟩, ⟨.int .u8, 1, .rowl [d]⟩, ⟨.int .u8, 1, .rowl [e]⟩, ⟨.int .u8, 16, .rowl id⟩]
def joins (f id : Nat) : Option JoinAnn :=
  match f, id with
  | 21, 100008 => some { inc := { v := 1 }, slots := fun c => [(7, .vv c.v)], hp := fun c h => h ++ [finding c.v 1 0 1 0 [7]], gh := keepSlots [3, 4, 5, 6, 7] }
  | 21, 100009 => some { inc := { v := 1 }, slots := fun c => [(8, .vv c.v)], hp := fun c h => h ++ [finding c.v 7 1 0 0 []], gh := keepSlots [3, 4, 5, 6, 7, 8] }
  | 21, 100010 => some { inc := { v := 1 }, slots := fun c => [(9, .vv c.v)], hp := fun c h => h ++ [finding c.v 3 0 0 0 [7]], gh := keepSlots [3, 4, 5, 6, 7, 8, 9] }
  | 21, 100011 => some { slots := fun _ => [(10, .nils)], hp := fun _ h => h, gh := keepSlots [3, 4, 5, 6, 7, 8, 9] }
  | _, _ => none
def ghosts (f id : Nat) : Option (St → Option GhostStep) :=
  match f, id with
  | 21, 7 => some (keepOnce [3, 4, 5, 6])
  | _, _ => none
end Go.RX.Au

namespace Go.RX.Lp
open Go.RX
/-- The chunk that says what is laid. -/
def absIdx (hp : List Ck) : List Nat :=
  match hp.findIdx? (fun c => match c with | .abs _ => true | _ => false) with
  | some i => [i]
  | none => []
def rowIdx (as : List SV) (hp : List Ck) : List Nat :=
  match as with
  | .sl b _ _ _ _ :: _ => match hp.findIdx? (fun c => match c with | .row b' .. => b == b' | _ => false) with
    | some i => [i]
    | none => []
  | _ => []
/-- A call that answers a string. -/
def strCall : CallAnn := { use := fun _ hp => absIdx hp, inc := { a := 1 }, val := fun c => .strE (.avar c.a), new := fun _ h => h }
def joinCall : CallAnn := { use := fun as hp => rowIdx as hp, inc := { a := 1 }, val := fun c => .strE (.avar c.a), new := fun _ h => h }
def callsL (f d : Nat) : Option CallAnn :=
  match f, d with
  | 22, 47 => some strCall
  | 22, 52 => some strCall
  | 22, 58 => some strCall
  | 22, 62 => some joinCall
  | _, _ => none
end Go.RX.Lp

namespace Go.RX.Ac
open Go.RX
def fCols : List Col := [⟨.int .u8, 1, .avar 0⟩, ⟨.int .i64, 1, .avar 1⟩, ⟨.int .u8, 1, .avar 2⟩, ⟨.int .u8, 1, .avar 3⟩, ⟨.int .u8, 16, .avar 4⟩]
def hp6 (c : Cnt) (h : List Ck) : List Ck :=
  match h with
  | [a, .row b w [.seg k n _]] => [a, .row b w [.seg k n (.avar c.a)]]
  | h => h
/-- The last row of eight numbers is another. -/
def last8 (x : E) : List Ck → List Ck
  | [] => []
  | .row b w [.seg .i64 8 y] :: r => if r.any (fun c => match c with | .row _ _ [.seg .i64 8 _] => true | _ => false) then .row b w [.seg .i64 8 y] :: last8 x r else .row b w [.seg .i64 8 x] :: r
  | c :: r => c :: last8 x r
def loops (f id : Nat) : Option LoopAnn :=
  match f, id with
  | 6, 0 => some { inc := { i := 1, a := 1 }, slots := fun c => [(13, .int .i64 (.var c.i))], hp := hp6 }
  | 60, 0 => some { inc := { i := 1, a := 1 }, slots := fun c => [(7, .int .i64 (.var c.i))], hp := fun c h => last8 (.avar c.a) h }
  | _, _ => none
def pKnown (as : List SV) (_ : List Ck) : Option PRes :=
  match as with
  | [] => some { val := .bool (.lit true) }
  | _ => none
def pure (f : Nat) : Option (List SV → List Ck → Option PRes) :=
  match f with
  | 21 => some pKnown
  | _ => none
end Go.RX.Ac

namespace Go.RX.Lu
open Go.RX
def loops (f id : Nat) : Option LoopAnn :=
  match f, id with
  | 110, 3 => some { inc := { i := 2 }, slots := fun c => [(101, .int .i64 (.var c.i)), (13, .int .u64 (.var (c.i + 1))), (12, .bool (.lit false))] }
  | _, _ => none
end Go.RX.Lu

namespace Go.RX.Lf
open Go.RX Go.RX.Lp
def smallCall : CallAnn := { use := fun _ _ => [], inc := { a := 1 }, val := fun c => .strE (.avar c.a), new := fun _ h => h }
def numCall : CallAnn := { use := fun _ hp => absIdx hp, inc := { i := 1 }, val := fun c => .int .i64 (.var c.i), new := fun _ h => h }
def fmtCall : CallAnn := { use := fun as hp => rowIdx as hp, inc := { a := 1 }, val := fun _ => .tup [], new := fun c h => match h with | [.row b w _] => [.row b w [.seg .u8 24 (.avar c.a)]] | h => h }
def okCall : CallAnn := { use := fun _ _ => [], inc := { i := 1 }, val := fun c => .tup [.int .u64 (.var c.i), .nili], new := fun _ h => h }
def errCall : CallAnn := { use := fun _ _ => [], inc := { i := 2 }, val := fun c => .tup [.int .u64 (.var c.i), .ifl 231 .i64 (.var (c.i + 1))], new := fun _ h => h }
def toErrCall : CallAnn := { use := fun _ hp => absIdx hp, inc := { v := 1 }, val := fun c => .ifv (.lit true) c.v, new := fun _ h => h }
def parseCall : CallAnn := { use := fun _ hp => absIdx hp, inc := { i := 1, bo := 1, v := 1 }, val := fun c => .tup [.int .u64 (.var c.i), .ifv (.var c.bo) c.v], new := fun _ h => h }
def callsF (f d : Nat) : Option CallAnn :=
  match f, d with
  | 93, 15 => some smallCall
  | 93, 17 => some numCall
  | 93, 21 => some fmtCall
  | _, _ => none
def callsOk (f d : Nat) : Option CallAnn :=
  match f, d with
  | 88, 14 => some okCall
  | _, _ => none
def callsErr (f d : Nat) : Option CallAnn :=
  match f, d with
  | 88, 14 => some errCall
  | 88, 24 => some toErrCall
  | _, _ => none
def callsN (f d : Nat) : Option CallAnn :=
  match f, d with
  | 57, 11 => some parseCall
  | 57, 20 => some strCall
  | _, _ => none
end Go.RX.Lf

namespace Go.RX.Ln
open Go.RX
/-- A call that answers a string, and touches no memory. -/
def strCall : CallAnn := { use := fun _ _ => [], inc := { a := 1 }, val := fun c => .strE (.avar c.a), new := fun _ _ => [] }
def numCall : CallAnn := { use := fun _ _ => [], inc := { i := 2 }, val := fun c => .tup [.int .i64 (.var c.i), .int .i64 (.var (c.i + 1))], new := fun _ _ => [] }
/-- The document's side: numbers, lines. -/
def callsA (f d : Nat) : Option CallAnn :=
  match f, d with
  | 54, 15 => some strCall
  | 23, 50 => some strCall
  | 23, 57 => some strCall
  | 23, 64 => some strCall
  | _, _ => none
def callsB (f d : Nat) : Option CallAnn :=
  match f, d with
  | 25, 52 => some numCall
  | 25, 60 => some numCall
  | 25, 67 => some numCall
  | 25, 128 => some strCall
  | _, _ => none
/-- The record that is read, at its kind. -/
def hpKind (c : Cnt) (h : List Ck) : List Ck :=
  match h with
  | r :: .row b w (_ :: rest) :: _ => [r, .row b w (.int .u8 (.var (c.i + 1)) :: rest)]
  | h => h
def hpId (c : Cnt) (h : List Ck) : List Ck :=
  match h with
  | r :: .row b w [x, y, z, u, .seg k n _] :: rest => r :: .row b w [x, y, z, u, .seg k n (.avar c.a)] :: rest
  | h => h
def joinsB (f id : Nat) : Option JoinAnn :=
  match f, id with
  | 25, 0 => some { inc := { i := 2 }, slots := fun c => [(5, .int .i64 (.var c.i))], hp := hpKind }
  | _, _ => none
def loops (f id : Nat) : Option LoopAnn :=
  match f, id with
  | 59, 0 => some { inc := { i := 2 }, slots := fun c => [(8, .int .i64 (.var c.i)), (1, .int .i64 (.var (c.i + 1)))] }
  | 25, 4 => some { inc := { i := 1, a := 1 }, slots := fun c => [(11, .int .i64 (.var c.i))], hp := hpId }
  | _, _ => none
end Go.RX.Ln

namespace Go.RX.Sc
open Go.RX Go.RX.Au
/-- Bytes behind bytes. -/
def catB (a n : E) (s : SV) (e : E) : E :=
  match litNat n, s with
  | some k, .str l =>
    match litsOf a k with
    | some xs => .rowl (xs ++ l.map fun b => (b.toNat : Int))
    | none => .spl a n (eLen e) (eSby e)
  | _, _ => .spl a n (eLen e) (eSby e)
/-- (*strings.Builder).WriteString. -/
def pWriteStr (as : List SV) (hp : List Ck) : Option PRes :=
  match as with
  | [.ptr b 0, s] =>
    match findBld hp b, toStrE s with
    | some (j, 93, 5, n, a), some e => some { val := .tup [.int .i64 (eLen e), .nili], vcs := bLe' (.lit 0) n ++ bLe' (.lit 0) (eLen e) ++ bLe' (eAdd n (eLen e)) (.lit 140737488355328), use := [j], new := [.bld b 93 5 (eAdd n (eLen e)) (catB a n s e)] }
    | _, _ => none
  | _ => none
/-- (*strings.Builder).Len. -/
def pLen (as : List SV) (hp : List Ck) : Option PRes :=
  match as with
  | [.ptr b 0] =>
    match findBld hp b with
    | some (j, 93, 5, n, a) => some { val := .int .i64 n, vcs := bLe' (.lit 0) n, use := [j], new := [.bld b 93 5 n a] }
    | _ => none
  | _ => none
def pSmall (as : List SV) (_ : List Ck) : Option PRes :=
  match as with
  | [.int .i64 (.lit (.ofNat n))] => if n < 100 then some { val := .str (Lib.decDigits n) } else none
  | _ => none
def pAtoi (as : List SV) (_ : List Ck) : Option PRes :=
  match as with
  | [.str l] => match Lib.atoiAll l with
    | .ok v => if l.length ≤ 100 then some { val := .tup [.int .i64 (.lit v), .nili] } else none
    | _ => none
  | _ => none
def pParse (as : List SV) (_ : List Ck) : Option PRes :=
  match as with
  | [.str l, .int .i64 (.lit 10), .int .i64 (.lit 8)] => match Lib.parseUintB 8 l with
    | .ok v => if l.length ≤ 100 then some { val := .tup [.int .u64 (.lit v), .nili] } else none
    | _ => none
  | _ => none
/-- The strings of a slice of so many. -/
def strsAt (a : E) (n : Nat) : List E := (List.range n).map fun (j : Nat) => eAt2 a (.lit (j : Int))
def strLit : E → Option (List UInt8)
  | .rowl l => match mkStr (.rowl l) with
    | .str l => some l
    | _ => none
  | _ => none
def strLits : List E → Option (List (List UInt8))
  | [] => some []
  | e :: r => match strLit e, strLits r with
    | some l, some ls => some (l :: ls)
    | _, _ => none
def catAll (sep : E) : List E → E
  | [] => .rowl [0]
  | [x] => x
  | x :: y :: r => eCat (eCat x sep) (catAll sep (y :: r))
def lenAll (sep : Nat) : List E → E
  | [] => .lit 0
  | [x] => eLen x
  | x :: y :: r => eAdd (eAdd (eLen x) (.lit sep)) (lenAll sep (y :: r))
/-- strings.Join, at a slice of so many strings. -/
def pJoinS (as : List SV) (hp : List Ck) : Option PRes :=
  match as with
  | [.vv v, .str sep] =>
    match findOwn hp v with
    | some (j, .sli md v' 9 1 (.lit (.ofNat n)) [⟨.str, 1, a⟩]) =>
      if 1 ≤ n ∧ n ≤ 1000 ∧ sep.length ≤ 1000 then
        match strLits (strsAt a n) with
        | some xs => if (joinL sep xs).length ≤ 1000000 then some { val := .str (joinL sep xs), use := [j], new := [.sli md v' 9 1 (.lit n) [⟨.str, 1, a⟩]] } else none
        | none => some { val := .strE (catAll (rowB sep) (strsAt a n)), vcs := ((strsAt a n).flatMap fun s => bLe' (.lit 0) (eLen s)) ++ bLe' (lenAll sep.length (strsAt a n)) (.lit 140737488355328), use := [j], new := [.sli md v' 9 1 (.lit n) [⟨.str, 1, a⟩]] }
      else none
    | _ => none
  | as => pJoin as hp
def pure (f : Nat) : Option (List SV → List Ck → Option PRes) :=
  match f with
  | 45 => some pWriteStr
  | 46 => some pLen
  | 38 => some pJoinS
  | 119 => some pSmall
  | 116 => some pAtoi
  | 88 => some pParse
  | f => Au.pure f
end Go.RX.Sc

namespace Go.RX.Sp
open Go.RX Go.RX.Lp
/-- The chunk that a slice stands for. -/
def sliIdx (as : List SV) (hp : List Ck) : List Nat :=
  match as with
  | .vv v :: _ => match hp.findIdx? (fun c => match c with | .sli _ v' .. => v == v' | _ => false) with
    | some i => [i]
    | none => []
  | _ => []
def bldIdx (as : List SV) (hp : List Ck) : List Nat :=
  match as with
  | .ptr b _ :: _ => match hp.findIdx? (fun c => match c with | .bld b' .. => b == b' | _ => false) with
    | some i => [i]
    | none => []
  | _ => []
def hexCall : CallAnn := { use := sliIdx, inc := { a := 1 }, val := fun c => .strE (.avar c.a), new := fun _ h => h }
def strBld : CallAnn := { use := bldIdx, inc := { a := 1 }, val := fun c => .strE (.avar c.a), new := fun _ _ => [] }
/-- The program's side: a line. -/
def calleesL (f : Nat) : Option CallAnn :=
  match f with
  | 71 => some strCall
  | 35 => some strCall
  | 37 => some hexCall
  | _ => none
def callsH (f d : Nat) : Option CallAnn :=
  match f, d with
  | 37, 24 => some strBld
  | _, _ => none
def bldNew (c : Cnt) : Ck → Ck
  | .bld b t e _ _ => .bld b t e (.var (c.i + 1)) (.avar c.a)
  | h => h
def loopsH (f id : Nat) : Option LoopAnn :=
  match f, id with
  | 37, 0 => some { inc := { i := 2, a := 1 }, slots := fun c => [(11, .int .i64 (.var c.i))], hp := fun c h => h.map (bldNew c) }
  | _, _ => none
/-! the document's side -/
def strN : CallAnn := { use := fun _ _ => [], inc := { a := 1 }, val := fun c => .strE (.avar c.a), new := fun _ h => h }
def calleesR (f : Nat) : Option CallAnn :=
  match f with
  | 43 => some strN
  | 42 => some strN
  | 44 => some hexCall
  | _ => none
def last : List Ck → Option Ck
  | [] => none
  | [c] => some c
  | _ :: r => last r
/-- The bytes that grow: the last owned slice. -/
def growNew (c : Cnt) : Ck → Ck
  | .sli true _ t s _ _ => .sli true c.v t s (.var (c.i + 1)) [⟨.int .u8, 1, .avar c.a⟩]
  | h => h
def loopsR (f id : Nat) : Option LoopAnn :=
  match f, id with
  | 44, 0 => some { pre := [.slot 4 5], inc := { i := 2, a := 1, v := 1 }, slots := fun c => [(5, .int .i64 (.var c.i)), (4, .vv c.v)], hp := fun c h => h.map (growNew c) }
  | _, _ => none
/-- A kind that is none: its form is told. -/
def noForm : CallAnn := { use := fun _ _ => [], val := fun _ => .tup [.str [], .str [], .bool (.lit false)], new := fun _ h => h }
def calls0 (f d : Nat) : Option CallAnn :=
  match f, d with
  | 14, 14 => some noForm
  | 15, 11 => some noForm
  | _, _ => none
end Go.RX.Sp

namespace Go.RX.Sq
open Go.RX Go.RX.Lp Go.RX.Sp
/-- Moves, side by side. -/
def mCols : List Col := [⟨.int .u8, 1, .avar 0⟩, ⟨.int .u8, 1, .avar 1⟩, ⟨.int .u8, 1, .avar 2⟩, ⟨.int .u8, 1, .avar 3⟩, ⟨.int .u8, 1, .avar 4⟩, ⟨.int .i64, 1, .avar 5⟩, ⟨.int .u64, 1, .avar 6⟩, ⟨.val 0, 1, .lit 0⟩]
def hpM : List Ck := [.abs 0, .sli false 0 39 8 (.var 0) mCols]
def lineCall : CallAnn := { use := fun _ hp => absIdx hp, inc := { a := 1, bo := 1 }, val := fun c => .tup [.strE (.avar c.a), .bool (.var c.bo)], new := fun _ h => h }
def rlineCall : CallAnn := { use := fun _ hp => absIdx hp, inc := { a := 1 }, val := fun c => .strE (.avar c.a), new := fun _ h => h }
/-- A slice, looked at, and what is laid. -/
def bothIdx (as : List SV) (hp : List Ck) : List Nat := absIdx hp ++ sliIdx as hp
def heavyCall : CallAnn := { use := bothIdx, inc := { bo := 1 }, val := fun c => .bool (.var c.bo), new := fun _ h => h }
def rprintCall : CallAnn := { use := bothIdx, inc := { a := 1, i := 1 }, val := fun c => .tup [.strE (.avar c.a), .int .i64 (.var c.i)], new := fun _ h => h }
def tellCall : CallAnn := { use := fun _ hp => absIdx hp, inc := { a := 1 }, val := fun c => .strE (.avar c.a), new := fun _ h => h }
def calls (f d : Nat) : Option CallAnn :=
  match f, d with
  | 4, 17 => some heavyCall
  | 4, 32 => some lineCall
  | 4, 36 => some rlineCall
  | 4, 55 => some rprintCall
  | 4, 68 => some tellCall
  | 4, 70 => some tellCall
  | 16, 19 => some lineCall
  | 16, 29 => some strBld
  | 18, 19 => some rlineCall
  | _, _ => none
/-- The row of one number that is told anew: the last one that is a count. -/
def cntNew (x : E) : Ck → Ck
  | .row b w [.int .i64 _] => .row b w [.int .i64 x]
  | h => h
def bldNew2 (n a : E) : Ck → Ck
  | .bld b t e _ _ => .bld b t e n a
  | h => h
/-- Print: the count is the last row of one int; the error's row lies ahead of it. -/
def lastCnt (x : E) : List Ck → List Ck
  | [] => []
  | .row b w [.int .i64 y] :: r => if r.any (fun c => match c with | .row _ _ [.int .i64 _] => true | _ => false) then .row b w [.int .i64 y] :: lastCnt x r else .row b w [.int .i64 x] :: r
  | c :: r => c :: lastCnt x r
def loops (f id : Nat) : Option LoopAnn :=
  match f, id with
  | 13, 0 => some { inc := { i := 2 }, slots := fun c => [(8, .int .i64 (.var c.i)), (3, .int .i64 (.var (c.i + 1)))] }
  | 18, 0 => some { inc := { i := 1, a := 1 }, slots := fun c => [(5, .int .i64 (.var c.i)), (4, .strE (.avar c.a))] }
  | 4, 0 => some { inc := { i := 1 }, slots := fun c => [(26, .int .i64 (.var c.i))] }
  | 48, 0 => some { inc := { i := 3, a := 1 }, slots := fun c => [(7, .int .i64 (.var c.i))], hp := fun c h => (lastCnt (.var (c.i + 1)) h).map (bldNew2 (.var (c.i + 2)) (.avar c.a)) }
  | _, _ => none
/-- A move's bytes, as a slice of their own. -/
def openB (st : St) : Option GhostStep :=
  match look st.fr 5 with
  | some (.ptr b 0) =>
    match findAt st.hp b, absIdx st.hp with
    | some (j, .row b' w [x0, x1, x2, x3, x4, x5, x6, .vsel 0 _]), [k] => some { use := [j, k], inc := { v := 1, i := 1, a := 1 }, new := [.row b' w [x0, x1, x2, x3, x4, x5, x6, .vv st.cnt.v], st.hp.getD k .emp, .sli false st.cnt.v 5 1 (.var st.cnt.i) [⟨.int .u8, 1, .avar st.cnt.a⟩]] }
    | _, _ => none
  | _ => none
def ghosts (f id : Nat) : Option (St → Option GhostStep) :=
  match f, id with
  | 13, 4 => some openB
  | _, _ => none
/-! Tell -/
def callsT (f d : Nat) : Option CallAnn :=
  match f, d with
  | 19, 9 => some strCall
  | 19, 12 => some joinCall
  | 19, 15 => some hexCall
  | 19, 17 => some joinCall
  | 20, 22 => some strN
  | 20, 26 => some hexCall
  | 20, 31 => some hexCall
  | _, _ => none
def loopsT (f id : Nat) : Option LoopAnn :=
  match f, id with
  | 20, 0 => some { pre := [.slot 4 5], inc := { i := 2, a := 1, v := 1 }, slots := fun c => [(5, .int .i64 (.var c.i)), (4, .vv c.v)], hp := fun c h => h.map (growNew c) }
  | _, _ => none
def pWorks (xs : List SV) (_ : List Ck) : Option PRes :=
  match xs with
  | [] => some { val := .bool (.lit true) }
  | _ => none
def pure (f : Nat) : Option (List SV → List Ck → Option PRes) :=
  match f with
  | 7 => some pWorks
  | f => Sc.pure f
end Go.RX.Sq
