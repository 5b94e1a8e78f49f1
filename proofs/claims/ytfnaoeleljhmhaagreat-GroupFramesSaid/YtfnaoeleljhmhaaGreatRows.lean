/-
  No cell of these rows narrows 'for every input' (looked for: loops, veiled, ifaces, maps, wideKeys, modest, calm, conditions, laid).
  DERIVED. THE GIVEN ROWS OF THIS SEAT. 3 by the template 'for every input the law returns true; each argument reads behind the call as it read before'; 0 by the template 'total and deterministic' (their statements: YtfnaoeleljhmhaaGreatTotals.lean).
  GIVEN WITH THE SEED: the statements are not yours to turn. If you find one false, say at which input.
  Laid BY PROGRAM, IN A SANDBOX (cutbox-rows.mjs): the forced cells as the released guide's own fill.sh prints them over the translation e341537671152b59… (all of the seat's roots in one cut). By AI agents, Wed Nov 11 2026. No macro, syntax, notation, axiom, sorry.
-/
import Derived.Test.YtfnaoeleljhmhaaGreatChecked
import GoSem.Claim
import GoSem.ClaimJoined
import GoSem.ClaimMapViews
import Derived.JoinedTies
import Derived.KernelRfl
namespace Go.Proofs.YtfnaoeleljhmhaaGreat
/- THE CELL 'sum', in the pinned program and in every row, IS THE sha256 OF THE DUMP (.gsa) THAT YtfnaoeleljhmhaaGreatProg.lean LOADS. Nothing in Lean hashes anything: it is a label: what it is worth is what the hold of that sum in a sandbox is worth. -/
noncomputable def Tryz.pinned : Pinned := { name := "ytfnaoeleljhmhaagreat", sum := "e341537671152b59b6b17f6c3b0841ed13349073fcafaa8accbf94fda107d8c6", checked := Tryz.checked }
namespace Rows
def none {H : Type} : Left H := { results := [], args := [] }

/-- 'hailerlaw24.GroupFrames': WHATEVER THE INPUT: true; the input reads as it did. -/
def groupFramesSpec : ChangeSpec := { name := "groupFrames", fn := fun _ => fun
  | [d1, d2] => { results := [.lit (.bool true)], args := [d1, d2] }
  | _ => none }
def groupFramesRow : OpenClaim := { program := "ytfnaoeleljhmhaagreat", sum := "e341537671152b59b6b17f6c3b0841ed13349073fcafaa8accbf94fda107d8c6", func := "hailer/hailerlaw24.GroupFrames", spec := "groupFrames", inPlace := ["slices.overlaps[hailer/group.held[hailer/term.Term]]", "internal/abi.NoEscape", "slices.overlaps[hailer/group.held[string]]", "internal/bytealg.MakeNoZero"], unfollowed := true, recurses := true, plainKeys := false, apart := false }
def GroupFramesSaid : Prop := groupFramesRow.holds Tryz.pinned (OpenSpec.ofChange groupFramesSpec)

/-- ITS FALSE NEIGHBOUR: 'it returns false'. Refute it at one input. -/
def groupFramesWrong : ChangeSpec := { name := "groupFrames", fn := fun _ => fun
  | [d1, d2] => { results := [.lit (.bool false)], args := [d1, d2] }
  | _ => none }
def GroupFramesWrongFalsely : Prop := groupFramesRow.holds Tryz.pinned (OpenSpec.ofChange groupFramesWrong)

/-- 'hailerlaw24.GroupPlays': WHATEVER THE INPUT: true; the input reads as it did. -/
def groupPlaysSpec : ChangeSpec := { name := "groupPlays", fn := fun _ => fun
  | [d1, d2] => { results := [.lit (.bool true)], args := [d1, d2] }
  | _ => none }
def groupPlaysRow : OpenClaim := { program := "ytfnaoeleljhmhaagreat", sum := "e341537671152b59b6b17f6c3b0841ed13349073fcafaa8accbf94fda107d8c6", func := "hailer/hailerlaw24.GroupPlays", spec := "groupPlays", inPlace := ["slices.overlaps[hailer/group.held[hailer/term.Term]]", "internal/abi.NoEscape", "slices.overlaps[hailer/group.held[string]]", "internal/bytealg.MakeNoZero"], unfollowed := true, recurses := true, plainKeys := false, apart := false }
def GroupPlaysSaid : Prop := groupPlaysRow.holds Tryz.pinned (OpenSpec.ofChange groupPlaysSpec)

/-- ITS FALSE NEIGHBOUR: 'it returns false'. Refute it at one input. -/
def groupPlaysWrong : ChangeSpec := { name := "groupPlays", fn := fun _ => fun
  | [d1, d2] => { results := [.lit (.bool false)], args := [d1, d2] }
  | _ => none }
def GroupPlaysWrongFalsely : Prop := groupPlaysRow.holds Tryz.pinned (OpenSpec.ofChange groupPlaysWrong)

/-- 'hailerlaw24.GroupSecret': WHATEVER THE INPUT: true; the input reads as it did. -/
def groupSecretSpec : ChangeSpec := { name := "groupSecret", fn := fun _ => fun
  | [d1, d2, d3] => { results := [.lit (.bool true)], args := [d1, d2, d3] }
  | _ => none }
def groupSecretRow : OpenClaim := { program := "ytfnaoeleljhmhaagreat", sum := "e341537671152b59b6b17f6c3b0841ed13349073fcafaa8accbf94fda107d8c6", func := "hailer/hailerlaw24.GroupSecret", spec := "groupSecret", inPlace := ["slices.overlaps[hailer/group.held[hailer/term.Term]]", "internal/abi.NoEscape", "slices.overlaps[hailer/group.held[string]]", "internal/bytealg.MakeNoZero"], unfollowed := true, recurses := true, plainKeys := false, apart := false }
def GroupSecretSaid : Prop := groupSecretRow.holds Tryz.pinned (OpenSpec.ofChange groupSecretSpec)

/-- ITS FALSE NEIGHBOUR: 'it returns false'. Refute it at one input. -/
def groupSecretWrong : ChangeSpec := { name := "groupSecret", fn := fun _ => fun
  | [d1, d2, d3] => { results := [.lit (.bool false)], args := [d1, d2, d3] }
  | _ => none }
def GroupSecretWrongFalsely : Prop := groupSecretRow.holds Tryz.pinned (OpenSpec.ofChange groupSecretWrong)

/- THE SECOND FORM. 'bulk': how many values and letters a reading holds, each counted each time it is reached (what is shared counts as often as it is met; a slice's spare places count too). A statement '..UptoSaid' is the law's where the arguments, and the package variables that the reading takes, are together of bulk at most 1048576: NARROWER than '..Said'. Prove '..Said' where nothing that the law and all that it calls make is longer than what came in: it says more and counts as full. Else prove '..UptoSaid'. A law counts once. -/
mutual
def uptoBulk {H : Type} : DataW H → Nat
  | .lit (.string bytes) => bytes.length + 1
  | .lit _ => 1
  | .nil => 1
  | .ptr d => uptoBulk d + 1
  | .slice elems spare => uptoBulkAll elems + uptoBulkAll spare + 1
  | .agg parts => uptoBulkAll parts + 1
  | .iface _ d => uptoBulk d + 1
  | .map entries => uptoBulkEntries entries + 1
  | .held _ => 1
def uptoBulkAll {H : Type} : List (DataW H) → Nat
  | [] => 0
  | d :: r => uptoBulk d + uptoBulkAll r
def uptoBulkEntries {H : Type} : List (Lit × DataW H) → Nat
  | [] => 0
  | x :: r => uptoBulkEntry x + uptoBulkEntries r
def uptoBulkEntry {H : Type} : Lit × DataW H → Nat
  | (.string bytes, d) => bytes.length + uptoBulk d + 1
  | (_, d) => uptoBulk d + 1
 end
def uptoSmall : (H : Type) → List (DataW H) → Bool := fun _ ds => decide (uptoBulkAll ds ≤ 1048576)
def OpenSpec.upto (s : _root_.Go.ChangeSpec) : _root_.Go.OpenSpec := { _root_.Go.OpenSpec.ofChange s with cond := some uptoSmall }

/-- 'hailerlaw24.GroupFrames', WHERE WHAT IT READS IS OF BULK AT MOST 1048576: true; the input reads as it did. -/
def groupFramesUptoRow : OpenClaim := { program := "ytfnaoeleljhmhaagreat", sum := "e341537671152b59b6b17f6c3b0841ed13349073fcafaa8accbf94fda107d8c6", func := "hailer/hailerlaw24.GroupFrames", spec := "groupFrames", inPlace := ["slices.overlaps[hailer/group.held[hailer/term.Term]]", "internal/abi.NoEscape", "slices.overlaps[hailer/group.held[string]]", "internal/bytealg.MakeNoZero"], unfollowed := true, recurses := true, plainKeys := false, apart := false, narrowed := true }
def GroupFramesUptoSaid : Prop := groupFramesUptoRow.holds Tryz.pinned (OpenSpec.upto groupFramesSpec)

/-- 'hailerlaw24.GroupPlays', WHERE WHAT IT READS IS OF BULK AT MOST 1048576: true; the input reads as it did. -/
def groupPlaysUptoRow : OpenClaim := { program := "ytfnaoeleljhmhaagreat", sum := "e341537671152b59b6b17f6c3b0841ed13349073fcafaa8accbf94fda107d8c6", func := "hailer/hailerlaw24.GroupPlays", spec := "groupPlays", inPlace := ["slices.overlaps[hailer/group.held[hailer/term.Term]]", "internal/abi.NoEscape", "slices.overlaps[hailer/group.held[string]]", "internal/bytealg.MakeNoZero"], unfollowed := true, recurses := true, plainKeys := false, apart := false, narrowed := true }
def GroupPlaysUptoSaid : Prop := groupPlaysUptoRow.holds Tryz.pinned (OpenSpec.upto groupPlaysSpec)

/-- 'hailerlaw24.GroupSecret', WHERE WHAT IT READS IS OF BULK AT MOST 1048576: true; the input reads as it did. -/
def groupSecretUptoRow : OpenClaim := { program := "ytfnaoeleljhmhaagreat", sum := "e341537671152b59b6b17f6c3b0841ed13349073fcafaa8accbf94fda107d8c6", func := "hailer/hailerlaw24.GroupSecret", spec := "groupSecret", inPlace := ["slices.overlaps[hailer/group.held[hailer/term.Term]]", "internal/abi.NoEscape", "slices.overlaps[hailer/group.held[string]]", "internal/bytealg.MakeNoZero"], unfollowed := true, recurses := true, plainKeys := false, apart := false, narrowed := true }
def GroupSecretUptoSaid : Prop := groupSecretUptoRow.holds Tryz.pinned (OpenSpec.upto groupSecretSpec)

end Rows
end Go.Proofs.YtfnaoeleljhmhaaGreat
