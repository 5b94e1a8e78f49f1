/-
  No cell of these rows narrows 'for every input' (looked for: loops, veiled, ifaces, maps, wideKeys, modest, calm, conditions, laid).
  DERIVED. THE GIVEN ROWS OF THIS SEAT. 4 by the template 'for every input the law returns true; each argument reads behind the call as it read before'; 0 by the template 'total and deterministic' (their statements: YtllcdnkfbeokhaaGreatTotals.lean).
  GIVEN WITH THE SEED: the statements are not yours to turn. If you find one false, say at which input.
  Laid BY PROGRAM, IN A SANDBOX (cutbox-rows.mjs): the forced cells as the released guide's own fill.sh prints them over the translation 72106ff33500c87a… (all of the seat's roots in one cut). By AI agents, Wed Nov 11 2026. No macro, syntax, notation, axiom, sorry.
-/
import Derived.Test.YtllcdnkfbeokhaaGreatChecked
import GoSem.Claim
import GoSem.ClaimJoined
import GoSem.ClaimMapViews
import Derived.JoinedTies
import Derived.KernelRfl
namespace Go.Proofs.YtllcdnkfbeokhaaGreat
/- THE CELL 'sum', in the pinned program and in every row, IS THE sha256 OF THE DUMP (.gsa) THAT YtllcdnkfbeokhaaGreatProg.lean LOADS. Nothing in Lean hashes anything: it is a label: what it is worth is what the hold of that sum in a sandbox is worth. -/
noncomputable def Tryz.pinned : Pinned := { name := "ytllcdnkfbeokhaagreat", sum := "72106ff33500c87a47e5b372aba8c25551c98dfb33c8dfd0af02ee9a84a8f7db", checked := Tryz.checked }
namespace Rows
def none {H : Type} : Left H := { results := [], args := [] }

/-- 'hailerlaw33.StorePuts': WHATEVER THE INPUT: true; the input reads as it did. -/
def storePutsSpec : ChangeSpec := { name := "storePuts", fn := fun _ => fun
  | [d] => { results := [.lit (.bool true)], args := [d] }
  | _ => none }
def storePutsRow : OpenClaim := { program := "ytllcdnkfbeokhaagreat", sum := "72106ff33500c87a47e5b372aba8c25551c98dfb33c8dfd0af02ee9a84a8f7db", func := "hailer/hailerlaw33.StorePuts", spec := "storePuts", unfollowed := true, recurses := true, plainKeys := false, apart := false }
def StorePutsSaid : Prop := storePutsRow.holds Tryz.pinned (OpenSpec.ofChange storePutsSpec)

/-- ITS FALSE NEIGHBOUR: 'it returns false'. Refute it at one input. -/
def storePutsWrong : ChangeSpec := { name := "storePuts", fn := fun _ => fun
  | [d] => { results := [.lit (.bool false)], args := [d] }
  | _ => none }
def StorePutsWrongFalsely : Prop := storePutsRow.holds Tryz.pinned (OpenSpec.ofChange storePutsWrong)

/-- 'hailerlaw33.StoreMay': WHATEVER THE INPUT: true; the input reads as it did. -/
def storeMaySpec : ChangeSpec := { name := "storeMay", fn := fun _ => fun
  | [d1, d2, d3] => { results := [.lit (.bool true)], args := [d1, d2, d3] }
  | _ => none }
def storeMayRow : OpenClaim := { program := "ytllcdnkfbeokhaagreat", sum := "72106ff33500c87a47e5b372aba8c25551c98dfb33c8dfd0af02ee9a84a8f7db", func := "hailer/hailerlaw33.StoreMay", spec := "storeMay", unfollowed := true, recurses := true, plainKeys := false, apart := false }
def StoreMaySaid : Prop := storeMayRow.holds Tryz.pinned (OpenSpec.ofChange storeMaySpec)

/-- ITS FALSE NEIGHBOUR: 'it returns false'. Refute it at one input. -/
def storeMayWrong : ChangeSpec := { name := "storeMay", fn := fun _ => fun
  | [d1, d2, d3] => { results := [.lit (.bool false)], args := [d1, d2, d3] }
  | _ => none }
def StoreMayWrongFalsely : Prop := storeMayRow.holds Tryz.pinned (OpenSpec.ofChange storeMayWrong)

/-- 'hailerlaw33.StoreTakes': WHATEVER THE INPUT: true; the input reads as it did. -/
def storeTakesSpec : ChangeSpec := { name := "storeTakes", fn := fun _ => fun
  | [d] => { results := [.lit (.bool true)], args := [d] }
  | _ => none }
def storeTakesRow : OpenClaim := { program := "ytllcdnkfbeokhaagreat", sum := "72106ff33500c87a47e5b372aba8c25551c98dfb33c8dfd0af02ee9a84a8f7db", func := "hailer/hailerlaw33.StoreTakes", spec := "storeTakes", unfollowed := true, recurses := true, plainKeys := false, apart := false }
def StoreTakesSaid : Prop := storeTakesRow.holds Tryz.pinned (OpenSpec.ofChange storeTakesSpec)

/-- ITS FALSE NEIGHBOUR: 'it returns false'. Refute it at one input. -/
def storeTakesWrong : ChangeSpec := { name := "storeTakes", fn := fun _ => fun
  | [d] => { results := [.lit (.bool false)], args := [d] }
  | _ => none }
def StoreTakesWrongFalsely : Prop := storeTakesRow.holds Tryz.pinned (OpenSpec.ofChange storeTakesWrong)

/-- 'hailerlaw33.StoreBack': WHATEVER THE INPUT: true; the input reads as it did. -/
def storeBackSpec : ChangeSpec := { name := "storeBack", fn := fun _ => fun
  | [d1, d2, d3, d4] => { results := [.lit (.bool true)], args := [d1, d2, d3, d4] }
  | _ => none }
def storeBackRow : OpenClaim := { program := "ytllcdnkfbeokhaagreat", sum := "72106ff33500c87a47e5b372aba8c25551c98dfb33c8dfd0af02ee9a84a8f7db", func := "hailer/hailerlaw33.StoreBack", spec := "storeBack", unfollowed := true, recurses := true, plainKeys := false, apart := false }
def StoreBackSaid : Prop := storeBackRow.holds Tryz.pinned (OpenSpec.ofChange storeBackSpec)

/-- ITS FALSE NEIGHBOUR: 'it returns false'. Refute it at one input. -/
def storeBackWrong : ChangeSpec := { name := "storeBack", fn := fun _ => fun
  | [d1, d2, d3, d4] => { results := [.lit (.bool false)], args := [d1, d2, d3, d4] }
  | _ => none }
def StoreBackWrongFalsely : Prop := storeBackRow.holds Tryz.pinned (OpenSpec.ofChange storeBackWrong)

/- THE SECOND FORM. 'bulk': how many values and letters a reading holds, each counted each time it is reached (what is shared counts as often as it is met; a slice's spare places count too). A statement '..UptoSaid' is the law's where the arguments, and the package variables that the reading takes, are together of bulk at most 1048576: NARROWER than '..Said'. Prove '..Said' where nothing that the law and all that it calls make is longer than what came in: it says more and counts as full. Else prove '..UptoSaid'. A law counts once. -/
mutual
def uptoBulk {H : Type} : DataW H → Nat
  | .lit (.string bytes) => bytes.length + 1
  | .lit _ => 1
  | .nil => 1
  | .ptr d => uptoBulk d + 1
  | .slice elems spare => uptoBulkAll elems + uptoBulkAll spare + 1
  | .agg parts => uptoBulkAll parts + 1
  | .iface _ d => uptoBulk d + 1
  | .map entries => uptoBulkEntries entries + 1
  | .held _ => 1
def uptoBulkAll {H : Type} : List (DataW H) → Nat
  | [] => 0
  | d :: r => uptoBulk d + uptoBulkAll r
def uptoBulkEntries {H : Type} : List (Lit × DataW H) → Nat
  | [] => 0
  | x :: r => uptoBulkEntry x + uptoBulkEntries r
def uptoBulkEntry {H : Type} : Lit × DataW H → Nat
  | (.string bytes, d) => bytes.length + uptoBulk d + 1
  | (_, d) => uptoBulk d + 1
 end
def uptoSmall : (H : Type) → List (DataW H) → Bool := fun _ ds => decide (uptoBulkAll ds ≤ 1048576)
def OpenSpec.upto (s : _root_.Go.ChangeSpec) : _root_.Go.OpenSpec := { _root_.Go.OpenSpec.ofChange s with cond := some uptoSmall }

/-- 'hailerlaw33.StorePuts', WHERE WHAT IT READS IS OF BULK AT MOST 1048576: true; the input reads as it did. -/
def storePutsUptoRow : OpenClaim := { program := "ytllcdnkfbeokhaagreat", sum := "72106ff33500c87a47e5b372aba8c25551c98dfb33c8dfd0af02ee9a84a8f7db", func := "hailer/hailerlaw33.StorePuts", spec := "storePuts", unfollowed := true, recurses := true, plainKeys := false, apart := false, narrowed := true }
def StorePutsUptoSaid : Prop := storePutsUptoRow.holds Tryz.pinned (OpenSpec.upto storePutsSpec)

/-- 'hailerlaw33.StoreMay', WHERE WHAT IT READS IS OF BULK AT MOST 1048576: true; the input reads as it did. -/
def storeMayUptoRow : OpenClaim := { program := "ytllcdnkfbeokhaagreat", sum := "72106ff33500c87a47e5b372aba8c25551c98dfb33c8dfd0af02ee9a84a8f7db", func := "hailer/hailerlaw33.StoreMay", spec := "storeMay", unfollowed := true, recurses := true, plainKeys := false, apart := false, narrowed := true }
def StoreMayUptoSaid : Prop := storeMayUptoRow.holds Tryz.pinned (OpenSpec.upto storeMaySpec)

/-- 'hailerlaw33.StoreTakes', WHERE WHAT IT READS IS OF BULK AT MOST 1048576: true; the input reads as it did. -/
def storeTakesUptoRow : OpenClaim := { program := "ytllcdnkfbeokhaagreat", sum := "72106ff33500c87a47e5b372aba8c25551c98dfb33c8dfd0af02ee9a84a8f7db", func := "hailer/hailerlaw33.StoreTakes", spec := "storeTakes", unfollowed := true, recurses := true, plainKeys := false, apart := false, narrowed := true }
def StoreTakesUptoSaid : Prop := storeTakesUptoRow.holds Tryz.pinned (OpenSpec.upto storeTakesSpec)

/-- 'hailerlaw33.StoreBack', WHERE WHAT IT READS IS OF BULK AT MOST 1048576: true; the input reads as it did. -/
def storeBackUptoRow : OpenClaim := { program := "ytllcdnkfbeokhaagreat", sum := "72106ff33500c87a47e5b372aba8c25551c98dfb33c8dfd0af02ee9a84a8f7db", func := "hailer/hailerlaw33.StoreBack", spec := "storeBack", unfollowed := true, recurses := true, plainKeys := false, apart := false, narrowed := true }
def StoreBackUptoSaid : Prop := storeBackUptoRow.holds Tryz.pinned (OpenSpec.upto storeBackSpec)

end Rows
end Go.Proofs.YtllcdnkfbeokhaaGreat
