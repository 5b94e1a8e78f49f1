/-
  DERIVED. GIVEN WITH THE SEED: THE CARDS: each row of YtgaabcinjbjbgaaGreatDoorRows.lean that lists a variable, with what it lists TIED to the program's text (the seventh form; the later family's looks); each row that meets fmt, with fmt's text TOLD by the authors' own Lean function (tested against real Go, not proved from fmt's source: count such statements apart). THE CARD IS WHAT COUNTS. Prove the row's statement (the work); the ties are given (YtgaabcinjbjbgaaGreatDoorTie.lean); close each card by the builder's one call (the guide's Derived/Test/ToyasCard.lean, 'card_holds'). Laid BY PROGRAM, IN A SANDBOX (cutbox-door.mjs). By AI agents, Wed Nov 11 2026. No macro, syntax, notation, axiom, sorry.
-/
import Derived.Test.YtgaabcinjbjbgaaGreatDoorRows
import GoSem.ClaimSeven
namespace Go.Proofs.YtgaabcinjbjbgaaGreatDoor
namespace Rows

/-- THE TIED CARD OF 'hailerlaw32.ScriptReads'. -/
def scriptReadsCard : Claim7 := { stood := { row := scriptReadsRow, standIns := [], harness := (true, "5b2e0039f0a481d208a958c26286c5754110a027df63b187f3830b27fbafea20"), looks := true }, kinds := [], alts := [], laidByText := true, laidKinds := [.data, .data, .data, .data, .sentinel, .sentinel, .pinned], laidTests := true, laidLooks := .later }
def ScriptReadsCardSaid : Prop := Claim7.holds Tryz.pinned (.plain (OpenSpec.ofChange scriptReadsSpec)) scriptReadsCard

/-- THE TIED CARD OF 'hailerlaw32.ScriptPrints'. -/
def scriptPrintsCard : Claim7 := { stood := { row := scriptPrintsRow, standIns := [], harness := (true, "5b2e0039f0a481d208a958c26286c5754110a027df63b187f3830b27fbafea20"), looks := true }, kinds := [], alts := [], laidByText := true, laidKinds := [.data, .data, .data, .data, .sentinel, .sentinel, .pinned], laidTests := true, laidLooks := .later }
def ScriptPrintsCardSaid : Prop := Claim7.holds Tryz.pinned (.plain (OpenSpec.ofChange scriptPrintsSpec)) scriptPrintsCard

/-- THE TIED CARD OF 'hailerlaw41.AuditLines'. -/
def auditLinesCard : Claim7 := { stood := { row := auditLinesRow, standIns := [], harness := (true, "5b2e0039f0a481d208a958c26286c5754110a027df63b187f3830b27fbafea20"), looks := true }, kinds := [], alts := [], laidByText := true, laidKinds := [.data, .data, .data, .data, .sentinel, .sentinel, .pinned], laidTests := true, laidLooks := .later }
def AuditLinesCardSaid : Prop := Claim7.holds Tryz.pinned (.plain (OpenSpec.ofChange auditLinesSpec)) auditLinesCard

/-- THE TIED CARD OF 'hailerlaw41.AuditCounts'. -/
def auditCountsCard : Claim7 := { stood := { row := auditCountsRow, standIns := [], harness := (true, "5b2e0039f0a481d208a958c26286c5754110a027df63b187f3830b27fbafea20"), looks := true }, kinds := [], alts := [], laidByText := true, laidKinds := [.data, .data, .data, .data, .sentinel, .sentinel, .pinned], laidTests := true, laidLooks := .later }
def AuditCountsCardSaid : Prop := Claim7.holds Tryz.pinned (.plain (OpenSpec.ofChange auditCountsSpec)) auditCountsCard

/-- THE SECOND FORM's CARD OF 'hailerlaw32.ScriptReads'. -/
def scriptReadsUptoCard : Claim7 := { stood := { row := scriptReadsUptoRow, standIns := [], harness := (true, "5b2e0039f0a481d208a958c26286c5754110a027df63b187f3830b27fbafea20"), looks := true }, kinds := [], alts := [], laidByText := true, laidKinds := [.data, .data, .data, .data, .sentinel, .sentinel, .pinned], laidTests := true, laidLooks := .later }
def ScriptReadsUptoCardSaid : Prop := Claim7.holds Tryz.pinned (.plain (OpenSpec.upto scriptReadsSpec)) scriptReadsUptoCard

/-- THE SECOND FORM's CARD OF 'hailerlaw32.ScriptPrints'. -/
def scriptPrintsUptoCard : Claim7 := { stood := { row := scriptPrintsUptoRow, standIns := [], harness := (true, "5b2e0039f0a481d208a958c26286c5754110a027df63b187f3830b27fbafea20"), looks := true }, kinds := [], alts := [], laidByText := true, laidKinds := [.data, .data, .data, .data, .sentinel, .sentinel, .pinned], laidTests := true, laidLooks := .later }
def ScriptPrintsUptoCardSaid : Prop := Claim7.holds Tryz.pinned (.plain (OpenSpec.upto scriptPrintsSpec)) scriptPrintsUptoCard

/-- THE SECOND FORM's CARD OF 'hailerlaw41.AuditLines'. -/
def auditLinesUptoCard : Claim7 := { stood := { row := auditLinesUptoRow, standIns := [], harness := (true, "5b2e0039f0a481d208a958c26286c5754110a027df63b187f3830b27fbafea20"), looks := true }, kinds := [], alts := [], laidByText := true, laidKinds := [.data, .data, .data, .data, .sentinel, .sentinel, .pinned], laidTests := true, laidLooks := .later }
def AuditLinesUptoCardSaid : Prop := Claim7.holds Tryz.pinned (.plain (OpenSpec.upto auditLinesSpec)) auditLinesUptoCard

/-- THE SECOND FORM's CARD OF 'hailerlaw41.AuditCounts'. -/
def auditCountsUptoCard : Claim7 := { stood := { row := auditCountsUptoRow, standIns := [], harness := (true, "5b2e0039f0a481d208a958c26286c5754110a027df63b187f3830b27fbafea20"), looks := true }, kinds := [], alts := [], laidByText := true, laidKinds := [.data, .data, .data, .data, .sentinel, .sentinel, .pinned], laidTests := true, laidLooks := .later }
def AuditCountsUptoCardSaid : Prop := Claim7.holds Tryz.pinned (.plain (OpenSpec.upto auditCountsSpec)) auditCountsUptoCard
end Rows
end Go.Proofs.YtgaabcinjbjbgaaGreatDoor
