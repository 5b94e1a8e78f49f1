/-
  No cell of these rows narrows 'for every input' (looked for: loops, veiled, ifaces, maps, wideKeys, modest, calm, conditions, laid).
  DERIVED. THE GIVEN ROWS OF THIS SEAT. 10 by the template 'for every input the law returns true; each argument reads behind the call as it read before'; 0 by the template 'total and deterministic' (their statements: YtphemenngjkfbaaTotals.lean).
  GIVEN WITH THE SEED: the statements are not yours to turn. If you find one false, say at which input.
  Laid BY PROGRAM, IN A SANDBOX (cutbox-rows.mjs): the forced cells as the released guide's own fill.sh prints them over the translation 55ccf464ce282a74… (all of the seat's roots in one cut). By AI agents, Wed Nov 11 2026. No macro, syntax, notation, axiom, sorry.
-/
import Derived.Test.YtphemenngjkfbaaChecked
import GoSem.Claim
import GoSem.ClaimJoined
import GoSem.ClaimMapViews
import Derived.JoinedTies
import Derived.KernelRfl
namespace Go.Proofs.Ytphemenngjkfbaa
/- THE CELL 'sum', in the pinned program and in every row, IS THE sha256 OF THE DUMP (.gsa) THAT YtphemenngjkfbaaProg.lean LOADS. Nothing in Lean hashes anything: it is a label: what it is worth is what the hold of that sum in a sandbox is worth. -/
noncomputable def Try.pinned : Pinned := { name := "ytphemenngjkfbaa", sum := "55ccf464ce282a74ba1e5b346041eded490e105d5701bb3ecea7be74ddf238e2", checked := Try.checked }
namespace Rows
def none {H : Type} : Left H := { results := [], args := [] }

/-- 'hailerlaw26.RingOnce': WHATEVER THE INPUT: true; the input reads as it did. -/
def ringOnceSpec : ChangeSpec := { name := "ringOnce", fn := fun _ => fun
  | [d1, d2] => { results := [.lit (.bool true)], args := [d1, d2] }
  | _ => none }
def ringOnceRow : OpenClaim := { program := "ytphemenngjkfbaa", sum := "55ccf464ce282a74ba1e5b346041eded490e105d5701bb3ecea7be74ddf238e2", func := "hailer/hailerlaw26.RingOnce", spec := "ringOnce", unfollowed := true, recurses := true, plainKeys := false, apart := false }
def RingOnceSaid : Prop := ringOnceRow.holds Try.pinned (OpenSpec.ofChange ringOnceSpec)

/-- ITS FALSE NEIGHBOUR: 'it returns false'. Refute it at one input. -/
def ringOnceWrong : ChangeSpec := { name := "ringOnce", fn := fun _ => fun
  | [d1, d2] => { results := [.lit (.bool false)], args := [d1, d2] }
  | _ => none }
def RingOnceWrongFalsely : Prop := ringOnceRow.holds Try.pinned (OpenSpec.ofChange ringOnceWrong)

/-- 'hailerlaw26.RingPlays': WHATEVER THE INPUT: true; the input reads as it did. -/
def ringPlaysSpec : ChangeSpec := { name := "ringPlays", fn := fun _ => fun
  | [d1, d2, d3] => { results := [.lit (.bool true)], args := [d1, d2, d3] }
  | _ => none }
def ringPlaysRow : OpenClaim := { program := "ytphemenngjkfbaa", sum := "55ccf464ce282a74ba1e5b346041eded490e105d5701bb3ecea7be74ddf238e2", func := "hailer/hailerlaw26.RingPlays", spec := "ringPlays", unfollowed := true, recurses := true, plainKeys := false, apart := false }
def RingPlaysSaid : Prop := ringPlaysRow.holds Try.pinned (OpenSpec.ofChange ringPlaysSpec)

/-- ITS FALSE NEIGHBOUR: 'it returns false'. Refute it at one input. -/
def ringPlaysWrong : ChangeSpec := { name := "ringPlays", fn := fun _ => fun
  | [d1, d2, d3] => { results := [.lit (.bool false)], args := [d1, d2, d3] }
  | _ => none }
def RingPlaysWrongFalsely : Prop := ringPlaysRow.holds Try.pinned (OpenSpec.ofChange ringPlaysWrong)

/-- 'hailerlaw26.RingMemory': WHATEVER THE INPUT: true; the input reads as it did. -/
def ringMemorySpec : ChangeSpec := { name := "ringMemory", fn := fun _ => fun
  | [d1, d2, d3] => { results := [.lit (.bool true)], args := [d1, d2, d3] }
  | _ => none }
def ringMemoryRow : OpenClaim := { program := "ytphemenngjkfbaa", sum := "55ccf464ce282a74ba1e5b346041eded490e105d5701bb3ecea7be74ddf238e2", func := "hailer/hailerlaw26.RingMemory", spec := "ringMemory", unfollowed := true, recurses := true, plainKeys := false, apart := false }
def RingMemorySaid : Prop := ringMemoryRow.holds Try.pinned (OpenSpec.ofChange ringMemorySpec)

/-- ITS FALSE NEIGHBOUR: 'it returns false'. Refute it at one input. -/
def ringMemoryWrong : ChangeSpec := { name := "ringMemory", fn := fun _ => fun
  | [d1, d2, d3] => { results := [.lit (.bool false)], args := [d1, d2, d3] }
  | _ => none }
def RingMemoryWrongFalsely : Prop := ringMemoryRow.holds Try.pinned (OpenSpec.ofChange ringMemoryWrong)

/-- 'hailerlaw26.RingKnown': WHATEVER THE INPUT: true; the input reads as it did. -/
def ringKnownSpec : ChangeSpec := { name := "ringKnown", fn := fun _ => fun
  | [] => { results := [.lit (.bool true)], args := [] }
  | _ => none }
def ringKnownRow : OpenClaim := { program := "ytphemenngjkfbaa", sum := "55ccf464ce282a74ba1e5b346041eded490e105d5701bb3ecea7be74ddf238e2", func := "hailer/hailerlaw26.RingKnown", spec := "ringKnown", unfollowed := true, recurses := true, plainKeys := false, apart := false }
def RingKnownSaid : Prop := ringKnownRow.holds Try.pinned (OpenSpec.ofChange ringKnownSpec)

/-- ITS FALSE NEIGHBOUR: 'it returns false'. Refute it at one input. -/
def ringKnownWrong : ChangeSpec := { name := "ringKnown", fn := fun _ => fun
  | [] => { results := [.lit (.bool false)], args := [] }
  | _ => none }
def RingKnownWrongFalsely : Prop := ringKnownRow.holds Try.pinned (OpenSpec.ofChange ringKnownWrong)

/-- 'hailerlaw30.SpecOne': WHATEVER THE INPUT: true; the input reads as it did. -/
def specOneSpec : ChangeSpec := { name := "specOne", fn := fun _ => fun
  | [d1, d2] => { results := [.lit (.bool true)], args := [d1, d2] }
  | _ => none }
def specOneRow : OpenClaim := { program := "ytphemenngjkfbaa", sum := "55ccf464ce282a74ba1e5b346041eded490e105d5701bb3ecea7be74ddf238e2", func := "hailer/hailerlaw30.SpecOne", spec := "specOne", unfollowed := true, recurses := true, plainKeys := false, apart := false }
def SpecOneSaid : Prop := specOneRow.holds Try.pinned (OpenSpec.ofChange specOneSpec)

/-- ITS FALSE NEIGHBOUR: 'it returns false'. Refute it at one input. -/
def specOneWrong : ChangeSpec := { name := "specOne", fn := fun _ => fun
  | [d1, d2] => { results := [.lit (.bool false)], args := [d1, d2] }
  | _ => none }
def SpecOneWrongFalsely : Prop := specOneRow.holds Try.pinned (OpenSpec.ofChange specOneWrong)

/-- 'hailerlaw30.SpecKnown': WHATEVER THE INPUT: true; the input reads as it did. -/
def specKnownSpec : ChangeSpec := { name := "specKnown", fn := fun _ => fun
  | [] => { results := [.lit (.bool true)], args := [] }
  | _ => none }
def specKnownRow : OpenClaim := { program := "ytphemenngjkfbaa", sum := "55ccf464ce282a74ba1e5b346041eded490e105d5701bb3ecea7be74ddf238e2", func := "hailer/hailerlaw30.SpecKnown", spec := "specKnown", unfollowed := true, recurses := true, plainKeys := false, apart := false }
def SpecKnownSaid : Prop := specKnownRow.holds Try.pinned (OpenSpec.ofChange specKnownSpec)

/-- ITS FALSE NEIGHBOUR: 'it returns false'. Refute it at one input. -/
def specKnownWrong : ChangeSpec := { name := "specKnown", fn := fun _ => fun
  | [] => { results := [.lit (.bool false)], args := [] }
  | _ => none }
def SpecKnownWrongFalsely : Prop := specKnownRow.holds Try.pinned (OpenSpec.ofChange specKnownWrong)

/-- 'hailerlaw27.CallMedia': WHATEVER THE INPUT: true; the input reads as it did. -/
def callMediaSpec : ChangeSpec := { name := "callMedia", fn := fun _ => fun
  | [d1, d2, d3, d4, d5] => { results := [.lit (.bool true)], args := [d1, d2, d3, d4, d5] }
  | _ => none }
def callMediaRow : OpenClaim := { program := "ytphemenngjkfbaa", sum := "55ccf464ce282a74ba1e5b346041eded490e105d5701bb3ecea7be74ddf238e2", func := "hailer/hailerlaw27.CallMedia", spec := "callMedia", inPlace := ["internal/bytealg.Compare"], unfollowed := true, recurses := true, plainKeys := false, apart := false }
def CallMediaSaid : Prop := callMediaRow.holds Try.pinned (OpenSpec.ofChange callMediaSpec)

/-- ITS FALSE NEIGHBOUR: 'it returns false'. Refute it at one input. -/
def callMediaWrong : ChangeSpec := { name := "callMedia", fn := fun _ => fun
  | [d1, d2, d3, d4, d5] => { results := [.lit (.bool false)], args := [d1, d2, d3, d4, d5] }
  | _ => none }
def CallMediaWrongFalsely : Prop := callMediaRow.holds Try.pinned (OpenSpec.ofChange callMediaWrong)

/-- 'hailerlaw27.CallKnown': WHATEVER THE INPUT: true; the input reads as it did. -/
def callKnownSpec : ChangeSpec := { name := "callKnown", fn := fun _ => fun
  | [] => { results := [.lit (.bool true)], args := [] }
  | _ => none }
def callKnownRow : OpenClaim := { program := "ytphemenngjkfbaa", sum := "55ccf464ce282a74ba1e5b346041eded490e105d5701bb3ecea7be74ddf238e2", func := "hailer/hailerlaw27.CallKnown", spec := "callKnown", inPlace := ["internal/bytealg.Compare"], unfollowed := true, recurses := true, plainKeys := false, apart := false }
def CallKnownSaid : Prop := callKnownRow.holds Try.pinned (OpenSpec.ofChange callKnownSpec)

/-- ITS FALSE NEIGHBOUR: 'it returns false'. Refute it at one input. -/
def callKnownWrong : ChangeSpec := { name := "callKnown", fn := fun _ => fun
  | [] => { results := [.lit (.bool false)], args := [] }
  | _ => none }
def CallKnownWrongFalsely : Prop := callKnownRow.holds Try.pinned (OpenSpec.ofChange callKnownWrong)

/-- 'hailerlaw27.CallMeets': WHATEVER THE INPUT: true; the input reads as it did. -/
def callMeetsSpec : ChangeSpec := { name := "callMeets", fn := fun _ => fun
  | [d] => { results := [.lit (.bool true)], args := [d] }
  | _ => none }
def callMeetsRow : OpenClaim := { program := "ytphemenngjkfbaa", sum := "55ccf464ce282a74ba1e5b346041eded490e105d5701bb3ecea7be74ddf238e2", func := "hailer/hailerlaw27.CallMeets", spec := "callMeets", inPlace := ["internal/bytealg.Compare"], unfollowed := true, recurses := true, plainKeys := false, apart := false }
def CallMeetsSaid : Prop := callMeetsRow.holds Try.pinned (OpenSpec.ofChange callMeetsSpec)

/-- ITS FALSE NEIGHBOUR: 'it returns false'. Refute it at one input. -/
def callMeetsWrong : ChangeSpec := { name := "callMeets", fn := fun _ => fun
  | [d] => { results := [.lit (.bool false)], args := [d] }
  | _ => none }
def CallMeetsWrongFalsely : Prop := callMeetsRow.holds Try.pinned (OpenSpec.ofChange callMeetsWrong)

/-- 'hailerlaw30.SpecRefines': WHATEVER THE INPUT: true; the input reads as it did. -/
def specRefinesSpec : ChangeSpec := { name := "specRefines", fn := fun _ => fun
  | [d] => { results := [.lit (.bool true)], args := [d] }
  | _ => none }
def specRefinesRow : OpenClaim := { program := "ytphemenngjkfbaa", sum := "55ccf464ce282a74ba1e5b346041eded490e105d5701bb3ecea7be74ddf238e2", func := "hailer/hailerlaw30.SpecRefines", spec := "specRefines", inPlace := ["internal/bytealg.Compare"], unfollowed := true, recurses := true, plainKeys := false, apart := false }
def SpecRefinesSaid : Prop := specRefinesRow.holds Try.pinned (OpenSpec.ofChange specRefinesSpec)

/-- ITS FALSE NEIGHBOUR: 'it returns false'. Refute it at one input. -/
def specRefinesWrong : ChangeSpec := { name := "specRefines", fn := fun _ => fun
  | [d] => { results := [.lit (.bool false)], args := [d] }
  | _ => none }
def SpecRefinesWrongFalsely : Prop := specRefinesRow.holds Try.pinned (OpenSpec.ofChange specRefinesWrong)

/- THE SECOND FORM. 'bulk': how many values and letters a reading holds, each counted each time it is reached (what is shared counts as often as it is met; a slice's spare places count too). A statement '..UptoSaid' is the law's where the arguments, and the package variables that the reading takes, are together of bulk at most 1048576: NARROWER than '..Said'. Prove '..Said' where nothing that the law and all that it calls make is longer than what came in: it says more and counts as full. Else prove '..UptoSaid'. A law counts once. -/
mutual
def uptoBulk {H : Type} : DataW H → Nat
  | .lit (.string bytes) => bytes.length + 1
  | .lit _ => 1
  | .nil => 1
  | .ptr d => uptoBulk d + 1
  | .slice elems spare => uptoBulkAll elems + uptoBulkAll spare + 1
  | .agg parts => uptoBulkAll parts + 1
  | .iface _ d => uptoBulk d + 1
  | .map entries => uptoBulkEntries entries + 1
  | .held _ => 1
def uptoBulkAll {H : Type} : List (DataW H) → Nat
  | [] => 0
  | d :: r => uptoBulk d + uptoBulkAll r
def uptoBulkEntries {H : Type} : List (Lit × DataW H) → Nat
  | [] => 0
  | x :: r => uptoBulkEntry x + uptoBulkEntries r
def uptoBulkEntry {H : Type} : Lit × DataW H → Nat
  | (.string bytes, d) => bytes.length + uptoBulk d + 1
  | (_, d) => uptoBulk d + 1
 end
def uptoSmall : (H : Type) → List (DataW H) → Bool := fun _ ds => decide (uptoBulkAll ds ≤ 1048576)
def OpenSpec.upto (s : _root_.Go.ChangeSpec) : _root_.Go.OpenSpec := { _root_.Go.OpenSpec.ofChange s with cond := some uptoSmall }

/-- 'hailerlaw26.RingOnce', WHERE WHAT IT READS IS OF BULK AT MOST 1048576: true; the input reads as it did. -/
def ringOnceUptoRow : OpenClaim := { program := "ytphemenngjkfbaa", sum := "55ccf464ce282a74ba1e5b346041eded490e105d5701bb3ecea7be74ddf238e2", func := "hailer/hailerlaw26.RingOnce", spec := "ringOnce", unfollowed := true, recurses := true, plainKeys := false, apart := false, narrowed := true }
def RingOnceUptoSaid : Prop := ringOnceUptoRow.holds Try.pinned (OpenSpec.upto ringOnceSpec)

/-- 'hailerlaw26.RingPlays', WHERE WHAT IT READS IS OF BULK AT MOST 1048576: true; the input reads as it did. -/
def ringPlaysUptoRow : OpenClaim := { program := "ytphemenngjkfbaa", sum := "55ccf464ce282a74ba1e5b346041eded490e105d5701bb3ecea7be74ddf238e2", func := "hailer/hailerlaw26.RingPlays", spec := "ringPlays", unfollowed := true, recurses := true, plainKeys := false, apart := false, narrowed := true }
def RingPlaysUptoSaid : Prop := ringPlaysUptoRow.holds Try.pinned (OpenSpec.upto ringPlaysSpec)

/-- 'hailerlaw26.RingMemory', WHERE WHAT IT READS IS OF BULK AT MOST 1048576: true; the input reads as it did. -/
def ringMemoryUptoRow : OpenClaim := { program := "ytphemenngjkfbaa", sum := "55ccf464ce282a74ba1e5b346041eded490e105d5701bb3ecea7be74ddf238e2", func := "hailer/hailerlaw26.RingMemory", spec := "ringMemory", unfollowed := true, recurses := true, plainKeys := false, apart := false, narrowed := true }
def RingMemoryUptoSaid : Prop := ringMemoryUptoRow.holds Try.pinned (OpenSpec.upto ringMemorySpec)

/-- 'hailerlaw26.RingKnown', WHERE WHAT IT READS IS OF BULK AT MOST 1048576: true; the input reads as it did. -/
def ringKnownUptoRow : OpenClaim := { program := "ytphemenngjkfbaa", sum := "55ccf464ce282a74ba1e5b346041eded490e105d5701bb3ecea7be74ddf238e2", func := "hailer/hailerlaw26.RingKnown", spec := "ringKnown", unfollowed := true, recurses := true, plainKeys := false, apart := false, narrowed := true }
def RingKnownUptoSaid : Prop := ringKnownUptoRow.holds Try.pinned (OpenSpec.upto ringKnownSpec)

/-- 'hailerlaw30.SpecOne', WHERE WHAT IT READS IS OF BULK AT MOST 1048576: true; the input reads as it did. -/
def specOneUptoRow : OpenClaim := { program := "ytphemenngjkfbaa", sum := "55ccf464ce282a74ba1e5b346041eded490e105d5701bb3ecea7be74ddf238e2", func := "hailer/hailerlaw30.SpecOne", spec := "specOne", unfollowed := true, recurses := true, plainKeys := false, apart := false, narrowed := true }
def SpecOneUptoSaid : Prop := specOneUptoRow.holds Try.pinned (OpenSpec.upto specOneSpec)

/-- 'hailerlaw30.SpecKnown', WHERE WHAT IT READS IS OF BULK AT MOST 1048576: true; the input reads as it did. -/
def specKnownUptoRow : OpenClaim := { program := "ytphemenngjkfbaa", sum := "55ccf464ce282a74ba1e5b346041eded490e105d5701bb3ecea7be74ddf238e2", func := "hailer/hailerlaw30.SpecKnown", spec := "specKnown", unfollowed := true, recurses := true, plainKeys := false, apart := false, narrowed := true }
def SpecKnownUptoSaid : Prop := specKnownUptoRow.holds Try.pinned (OpenSpec.upto specKnownSpec)

/-- 'hailerlaw27.CallMedia', WHERE WHAT IT READS IS OF BULK AT MOST 1048576: true; the input reads as it did. -/
def callMediaUptoRow : OpenClaim := { program := "ytphemenngjkfbaa", sum := "55ccf464ce282a74ba1e5b346041eded490e105d5701bb3ecea7be74ddf238e2", func := "hailer/hailerlaw27.CallMedia", spec := "callMedia", inPlace := ["internal/bytealg.Compare"], unfollowed := true, recurses := true, plainKeys := false, apart := false, narrowed := true }
def CallMediaUptoSaid : Prop := callMediaUptoRow.holds Try.pinned (OpenSpec.upto callMediaSpec)

/-- 'hailerlaw27.CallKnown', WHERE WHAT IT READS IS OF BULK AT MOST 1048576: true; the input reads as it did. -/
def callKnownUptoRow : OpenClaim := { program := "ytphemenngjkfbaa", sum := "55ccf464ce282a74ba1e5b346041eded490e105d5701bb3ecea7be74ddf238e2", func := "hailer/hailerlaw27.CallKnown", spec := "callKnown", inPlace := ["internal/bytealg.Compare"], unfollowed := true, recurses := true, plainKeys := false, apart := false, narrowed := true }
def CallKnownUptoSaid : Prop := callKnownUptoRow.holds Try.pinned (OpenSpec.upto callKnownSpec)

/-- 'hailerlaw27.CallMeets', WHERE WHAT IT READS IS OF BULK AT MOST 1048576: true; the input reads as it did. -/
def callMeetsUptoRow : OpenClaim := { program := "ytphemenngjkfbaa", sum := "55ccf464ce282a74ba1e5b346041eded490e105d5701bb3ecea7be74ddf238e2", func := "hailer/hailerlaw27.CallMeets", spec := "callMeets", inPlace := ["internal/bytealg.Compare"], unfollowed := true, recurses := true, plainKeys := false, apart := false, narrowed := true }
def CallMeetsUptoSaid : Prop := callMeetsUptoRow.holds Try.pinned (OpenSpec.upto callMeetsSpec)

/-- 'hailerlaw30.SpecRefines', WHERE WHAT IT READS IS OF BULK AT MOST 1048576: true; the input reads as it did. -/
def specRefinesUptoRow : OpenClaim := { program := "ytphemenngjkfbaa", sum := "55ccf464ce282a74ba1e5b346041eded490e105d5701bb3ecea7be74ddf238e2", func := "hailer/hailerlaw30.SpecRefines", spec := "specRefines", inPlace := ["internal/bytealg.Compare"], unfollowed := true, recurses := true, plainKeys := false, apart := false, narrowed := true }
def SpecRefinesUptoSaid : Prop := specRefinesUptoRow.holds Try.pinned (OpenSpec.upto specRefinesSpec)

end Rows
end Go.Proofs.Ytphemenngjkfbaa
