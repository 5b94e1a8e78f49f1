/-
  No cell of these rows narrows 'for every input' (looked for: loops, veiled, ifaces, maps, wideKeys, modest, calm, conditions, laid).
  DERIVED. THE GIVEN ROWS OF THIS SEAT. 3 by the template 'for every input the law returns true; each argument reads behind the call as it read before'; 0 by the template 'total and deterministic' (their statements: YtmgbbbmdbpbeeaaGreatTotals.lean).
  GIVEN WITH THE SEED: the statements are not yours to turn. If you find one false, say at which input.
  Laid BY PROGRAM, IN A SANDBOX (cutbox-rows.mjs): the forced cells as the released guide's own fill.sh prints them over the translation dec8b017ff47fbcf… (all of the seat's roots in one cut). By AI agents, Wed Nov 11 2026. No macro, syntax, notation, axiom, sorry.
-/
import Derived.Test.YtmgbbbmdbpbeeaaGreatChecked
import GoSem.Claim
import GoSem.ClaimJoined
import GoSem.ClaimMapViews
import Derived.JoinedTies
import Derived.KernelRfl
namespace Go.Proofs.YtmgbbbmdbpbeeaaGreat
/- THE CELL 'sum', in the pinned program and in every row, IS THE sha256 OF THE DUMP (.gsa) THAT YtmgbbbmdbpbeeaaGreatProg.lean LOADS. Nothing in Lean hashes anything: it is a label: what it is worth is what the hold of that sum in a sandbox is worth. -/
noncomputable def Tryz.pinned : Pinned := { name := "ytmgbbbmdbpbeeaagreat", sum := "dec8b017ff47fbcf9b36a1138df00b3f7870376a430383d3d285f4531a6e1929", checked := Tryz.checked }
namespace Rows
def none {H : Type} : Left H := { results := [], args := [] }

/-- 'hailerlaw14.FrameSeals': WHATEVER THE INPUT: true; the input reads as it did. -/
def frameSealsSpec : ChangeSpec := { name := "frameSeals", fn := fun _ => fun
  | [d1, d2, d3, d4] => { results := [.lit (.bool true)], args := [d1, d2, d3, d4] }
  | _ => none }
def frameSealsRow : OpenClaim := { program := "ytmgbbbmdbpbeeaagreat", sum := "dec8b017ff47fbcf9b36a1138df00b3f7870376a430383d3d285f4531a6e1929", func := "hailer/hailerlaw14.FrameSeals", spec := "frameSeals", inPlace := ["internal/bytealg.MakeNoZero"], unfollowed := true, recurses := true, plainKeys := false, apart := false }
def FrameSealsSaid : Prop := frameSealsRow.holds Tryz.pinned (OpenSpec.ofChange frameSealsSpec)

/-- ITS FALSE NEIGHBOUR: 'it returns false'. Refute it at one input. -/
def frameSealsWrong : ChangeSpec := { name := "frameSeals", fn := fun _ => fun
  | [d1, d2, d3, d4] => { results := [.lit (.bool false)], args := [d1, d2, d3, d4] }
  | _ => none }
def FrameSealsWrongFalsely : Prop := frameSealsRow.holds Tryz.pinned (OpenSpec.ofChange frameSealsWrong)

/-- 'hailerlaw16.StepPlays': WHATEVER THE INPUT: true; the input reads as it did. -/
def stepPlaysSpec : ChangeSpec := { name := "stepPlays", fn := fun _ => fun
  | [d1, d2, d3, d4, d5] => { results := [.lit (.bool true)], args := [d1, d2, d3, d4, d5] }
  | _ => none }
def stepPlaysRow : OpenClaim := { program := "ytmgbbbmdbpbeeaagreat", sum := "dec8b017ff47fbcf9b36a1138df00b3f7870376a430383d3d285f4531a6e1929", func := "hailer/hailerlaw16.StepPlays", spec := "stepPlays", inPlace := ["internal/bytealg.MakeNoZero"], unfollowed := true, recurses := true, plainKeys := false, apart := false }
def StepPlaysSaid : Prop := stepPlaysRow.holds Tryz.pinned (OpenSpec.ofChange stepPlaysSpec)

/-- ITS FALSE NEIGHBOUR: 'it returns false'. Refute it at one input. -/
def stepPlaysWrong : ChangeSpec := { name := "stepPlays", fn := fun _ => fun
  | [d1, d2, d3, d4, d5] => { results := [.lit (.bool false)], args := [d1, d2, d3, d4, d5] }
  | _ => none }
def StepPlaysWrongFalsely : Prop := stepPlaysRow.holds Tryz.pinned (OpenSpec.ofChange stepPlaysWrong)

/-- 'hailerlaw16.StepOnce': WHATEVER THE INPUT: true; the input reads as it did. -/
def stepOnceSpec : ChangeSpec := { name := "stepOnce", fn := fun _ => fun
  | [d1, d2, d3, d4, d5] => { results := [.lit (.bool true)], args := [d1, d2, d3, d4, d5] }
  | _ => none }
def stepOnceRow : OpenClaim := { program := "ytmgbbbmdbpbeeaagreat", sum := "dec8b017ff47fbcf9b36a1138df00b3f7870376a430383d3d285f4531a6e1929", func := "hailer/hailerlaw16.StepOnce", spec := "stepOnce", inPlace := ["internal/bytealg.MakeNoZero"], unfollowed := true, recurses := true, plainKeys := false, apart := false }
def StepOnceSaid : Prop := stepOnceRow.holds Tryz.pinned (OpenSpec.ofChange stepOnceSpec)

/-- ITS FALSE NEIGHBOUR: 'it returns false'. Refute it at one input. -/
def stepOnceWrong : ChangeSpec := { name := "stepOnce", fn := fun _ => fun
  | [d1, d2, d3, d4, d5] => { results := [.lit (.bool false)], args := [d1, d2, d3, d4, d5] }
  | _ => none }
def StepOnceWrongFalsely : Prop := stepOnceRow.holds Tryz.pinned (OpenSpec.ofChange stepOnceWrong)

/- THE SECOND FORM. 'bulk': how many values and letters a reading holds, each counted each time it is reached (what is shared counts as often as it is met; a slice's spare places count too). A statement '..UptoSaid' is the law's where the arguments, and the package variables that the reading takes, are together of bulk at most 1048576: NARROWER than '..Said'. Prove '..Said' where nothing that the law and all that it calls make is longer than what came in: it says more and counts as full. Else prove '..UptoSaid'. A law counts once. -/
mutual
def uptoBulk {H : Type} : DataW H → Nat
  | .lit (.string bytes) => bytes.length + 1
  | .lit _ => 1
  | .nil => 1
  | .ptr d => uptoBulk d + 1
  | .slice elems spare => uptoBulkAll elems + uptoBulkAll spare + 1
  | .agg parts => uptoBulkAll parts + 1
  | .iface _ d => uptoBulk d + 1
  | .map entries => uptoBulkEntries entries + 1
  | .held _ => 1
def uptoBulkAll {H : Type} : List (DataW H) → Nat
  | [] => 0
  | d :: r => uptoBulk d + uptoBulkAll r
def uptoBulkEntries {H : Type} : List (Lit × DataW H) → Nat
  | [] => 0
  | x :: r => uptoBulkEntry x + uptoBulkEntries r
def uptoBulkEntry {H : Type} : Lit × DataW H → Nat
  | (.string bytes, d) => bytes.length + uptoBulk d + 1
  | (_, d) => uptoBulk d + 1
 end
def uptoSmall : (H : Type) → List (DataW H) → Bool := fun _ ds => decide (uptoBulkAll ds ≤ 1048576)
def OpenSpec.upto (s : _root_.Go.ChangeSpec) : _root_.Go.OpenSpec := { _root_.Go.OpenSpec.ofChange s with cond := some uptoSmall }

/-- 'hailerlaw14.FrameSeals', WHERE WHAT IT READS IS OF BULK AT MOST 1048576: true; the input reads as it did. -/
def frameSealsUptoRow : OpenClaim := { program := "ytmgbbbmdbpbeeaagreat", sum := "dec8b017ff47fbcf9b36a1138df00b3f7870376a430383d3d285f4531a6e1929", func := "hailer/hailerlaw14.FrameSeals", spec := "frameSeals", inPlace := ["internal/bytealg.MakeNoZero"], unfollowed := true, recurses := true, plainKeys := false, apart := false, narrowed := true }
def FrameSealsUptoSaid : Prop := frameSealsUptoRow.holds Tryz.pinned (OpenSpec.upto frameSealsSpec)

/-- 'hailerlaw16.StepPlays', WHERE WHAT IT READS IS OF BULK AT MOST 1048576: true; the input reads as it did. -/
def stepPlaysUptoRow : OpenClaim := { program := "ytmgbbbmdbpbeeaagreat", sum := "dec8b017ff47fbcf9b36a1138df00b3f7870376a430383d3d285f4531a6e1929", func := "hailer/hailerlaw16.StepPlays", spec := "stepPlays", inPlace := ["internal/bytealg.MakeNoZero"], unfollowed := true, recurses := true, plainKeys := false, apart := false, narrowed := true }
def StepPlaysUptoSaid : Prop := stepPlaysUptoRow.holds Tryz.pinned (OpenSpec.upto stepPlaysSpec)

/-- 'hailerlaw16.StepOnce', WHERE WHAT IT READS IS OF BULK AT MOST 1048576: true; the input reads as it did. -/
def stepOnceUptoRow : OpenClaim := { program := "ytmgbbbmdbpbeeaagreat", sum := "dec8b017ff47fbcf9b36a1138df00b3f7870376a430383d3d285f4531a6e1929", func := "hailer/hailerlaw16.StepOnce", spec := "stepOnce", inPlace := ["internal/bytealg.MakeNoZero"], unfollowed := true, recurses := true, plainKeys := false, apart := false, narrowed := true }
def StepOnceUptoSaid : Prop := stepOnceUptoRow.holds Tryz.pinned (OpenSpec.upto stepOnceSpec)

end Rows
end Go.Proofs.YtmgbbbmdbpbeeaaGreat
