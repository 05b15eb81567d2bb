/-
  DERIVED. GIVEN WITH THE SEED: THE CARDS: each row of YthhijgcfbjcgiaaGreatDoorRows.lean that lists a variable, with what it lists TIED to the program's text (the seventh form; the later family's looks); each row that meets fmt, with fmt's text TOLD by the authors' own Lean function (tested against real Go, not proved from fmt's source: count such statements apart). THE CARD IS WHAT COUNTS. Prove the row's statement (the work); the ties are given (YthhijgcfbjcgiaaGreatDoorTie.lean); close each card by the builder's one call (the guide's Derived/Test/ToyasCard.lean, 'card_holds'). Laid BY PROGRAM, IN A SANDBOX (cutbox-door.mjs). By AI agents, Wed Nov 11 2026. No macro, syntax, notation, axiom, sorry.
-/
import Derived.Test.YthhijgcfbjcgiaaGreatDoorRows
import GoSem.ClaimSeven
namespace Go.Proofs.YthhijgcfbjcgiaaGreatDoor
namespace Rows

/-- THE TIED CARD OF 'praxinoscopelaw21.StreamPuts'. -/
def streamPutsCard : Claim7 := { stood := { row := streamPutsRow, standIns := [], harness := (true, "91779f5d06dc373f9c3dba87b9ee568791966ea4b0ef2646d8be03c2385c3869"), looks := true }, kinds := [], alts := [], laidByText := true, laidKinds := [.data, .data, .data, .data, .sentinel, .sentinel, .listed, .data, .pinned], laidTests := true, laidLooks := .later }
def StreamPutsCardSaid : Prop := Claim7.holds Tryz.pinned (.plain (OpenSpec.ofChange streamPutsSpec)) streamPutsCard

/-- THE TIED CARD OF 'praxinoscopelaw21.StreamParses'. -/
def streamParsesCard : Claim7 := { stood := { row := streamParsesRow, standIns := [], harness := (true, "91779f5d06dc373f9c3dba87b9ee568791966ea4b0ef2646d8be03c2385c3869"), looks := true }, kinds := [], alts := [], laidByText := true, laidKinds := [.data, .data, .data, .data, .sentinel, .sentinel, .listed, .data, .pinned], laidTests := true, laidLooks := .later }
def StreamParsesCardSaid : Prop := Claim7.holds Tryz.pinned (.plain (OpenSpec.ofChange streamParsesSpec)) streamParsesCard

/-- THE TIED CARD OF 'praxinoscopelaw21.StreamKnown'. -/
def streamKnownCard : Claim7 := { stood := { row := streamKnownRow, standIns := [], harness := (true, "91779f5d06dc373f9c3dba87b9ee568791966ea4b0ef2646d8be03c2385c3869"), looks := true }, kinds := [], alts := [], laidByText := true, laidKinds := [.data, .data, .data, .data, .sentinel, .sentinel, .listed, .data, .pinned], laidTests := true, laidLooks := .later }
def StreamKnownCardSaid : Prop := Claim7.holds Tryz.pinned (.plain (OpenSpec.ofChange streamKnownSpec)) streamKnownCard

/-- THE TIED CARD OF 'praxinoscopelaw21.StreamBack'. -/
def streamBackCard : Claim7 := { stood := { row := streamBackRow, standIns := [], harness := (true, "91779f5d06dc373f9c3dba87b9ee568791966ea4b0ef2646d8be03c2385c3869"), looks := true }, kinds := [], alts := [], laidByText := true, laidKinds := [.data, .data, .data, .data, .sentinel, .sentinel, .listed, .data, .pinned], laidTests := true, laidLooks := .later }
def StreamBackCardSaid : Prop := Claim7.holds Tryz.pinned (.plain (OpenSpec.ofChange streamBackSpec)) streamBackCard

/-- THE TIED CARD OF 'praxinoscopelaw21.StreamAhead'. -/
def streamAheadCard : Claim7 := { stood := { row := streamAheadRow, standIns := [], harness := (true, "91779f5d06dc373f9c3dba87b9ee568791966ea4b0ef2646d8be03c2385c3869"), looks := true }, kinds := [], alts := [], laidByText := true, laidKinds := [.data, .data, .data, .data, .sentinel, .sentinel, .listed, .data, .pinned], laidTests := true, laidLooks := .later }
def StreamAheadCardSaid : Prop := Claim7.holds Tryz.pinned (.plain (OpenSpec.ofChange streamAheadSpec)) streamAheadCard

/-- THE TIED CARD OF 'praxinoscopelaw21.StreamCut'. -/
def streamCutCard : Claim7 := { stood := { row := streamCutRow, standIns := [], harness := (true, "91779f5d06dc373f9c3dba87b9ee568791966ea4b0ef2646d8be03c2385c3869"), looks := true }, kinds := [], alts := [], laidByText := true, laidKinds := [.data, .data, .data, .data, .sentinel, .sentinel, .listed, .data, .pinned], laidTests := true, laidLooks := .later }
def StreamCutCardSaid : Prop := Claim7.holds Tryz.pinned (.plain (OpenSpec.ofChange streamCutSpec)) streamCutCard

/-- THE TIED CARD OF 'praxinoscopelaw21.StreamAgain'. -/
def streamAgainCard : Claim7 := { stood := { row := streamAgainRow, standIns := [], harness := (true, "91779f5d06dc373f9c3dba87b9ee568791966ea4b0ef2646d8be03c2385c3869"), looks := true }, kinds := [], alts := [], laidByText := true, laidKinds := [.data, .data, .data, .data, .sentinel, .sentinel, .listed, .data, .pinned], laidTests := true, laidLooks := .later }
def StreamAgainCardSaid : Prop := Claim7.holds Tryz.pinned (.plain (OpenSpec.ofChange streamAgainSpec)) streamAgainCard

/-- THE SECOND FORM's CARD OF 'praxinoscopelaw21.StreamPuts'. -/
def streamPutsUptoCard : Claim7 := { stood := { row := streamPutsUptoRow, standIns := [], harness := (true, "91779f5d06dc373f9c3dba87b9ee568791966ea4b0ef2646d8be03c2385c3869"), looks := true }, kinds := [], alts := [], laidByText := true, laidKinds := [.data, .data, .data, .data, .sentinel, .sentinel, .listed, .data, .pinned], laidTests := true, laidLooks := .later }
def StreamPutsUptoCardSaid : Prop := Claim7.holds Tryz.pinned (.plain (OpenSpec.upto streamPutsSpec)) streamPutsUptoCard

/-- THE SECOND FORM's CARD OF 'praxinoscopelaw21.StreamParses'. -/
def streamParsesUptoCard : Claim7 := { stood := { row := streamParsesUptoRow, standIns := [], harness := (true, "91779f5d06dc373f9c3dba87b9ee568791966ea4b0ef2646d8be03c2385c3869"), looks := true }, kinds := [], alts := [], laidByText := true, laidKinds := [.data, .data, .data, .data, .sentinel, .sentinel, .listed, .data, .pinned], laidTests := true, laidLooks := .later }
def StreamParsesUptoCardSaid : Prop := Claim7.holds Tryz.pinned (.plain (OpenSpec.upto streamParsesSpec)) streamParsesUptoCard

/-- THE SECOND FORM's CARD OF 'praxinoscopelaw21.StreamKnown'. -/
def streamKnownUptoCard : Claim7 := { stood := { row := streamKnownUptoRow, standIns := [], harness := (true, "91779f5d06dc373f9c3dba87b9ee568791966ea4b0ef2646d8be03c2385c3869"), looks := true }, kinds := [], alts := [], laidByText := true, laidKinds := [.data, .data, .data, .data, .sentinel, .sentinel, .listed, .data, .pinned], laidTests := true, laidLooks := .later }
def StreamKnownUptoCardSaid : Prop := Claim7.holds Tryz.pinned (.plain (OpenSpec.upto streamKnownSpec)) streamKnownUptoCard

/-- THE SECOND FORM's CARD OF 'praxinoscopelaw21.StreamBack'. -/
def streamBackUptoCard : Claim7 := { stood := { row := streamBackUptoRow, standIns := [], harness := (true, "91779f5d06dc373f9c3dba87b9ee568791966ea4b0ef2646d8be03c2385c3869"), looks := true }, kinds := [], alts := [], laidByText := true, laidKinds := [.data, .data, .data, .data, .sentinel, .sentinel, .listed, .data, .pinned], laidTests := true, laidLooks := .later }
def StreamBackUptoCardSaid : Prop := Claim7.holds Tryz.pinned (.plain (OpenSpec.upto streamBackSpec)) streamBackUptoCard

/-- THE SECOND FORM's CARD OF 'praxinoscopelaw21.StreamAhead'. -/
def streamAheadUptoCard : Claim7 := { stood := { row := streamAheadUptoRow, standIns := [], harness := (true, "91779f5d06dc373f9c3dba87b9ee568791966ea4b0ef2646d8be03c2385c3869"), looks := true }, kinds := [], alts := [], laidByText := true, laidKinds := [.data, .data, .data, .data, .sentinel, .sentinel, .listed, .data, .pinned], laidTests := true, laidLooks := .later }
def StreamAheadUptoCardSaid : Prop := Claim7.holds Tryz.pinned (.plain (OpenSpec.upto streamAheadSpec)) streamAheadUptoCard

/-- THE SECOND FORM's CARD OF 'praxinoscopelaw21.StreamCut'. -/
def streamCutUptoCard : Claim7 := { stood := { row := streamCutUptoRow, standIns := [], harness := (true, "91779f5d06dc373f9c3dba87b9ee568791966ea4b0ef2646d8be03c2385c3869"), looks := true }, kinds := [], alts := [], laidByText := true, laidKinds := [.data, .data, .data, .data, .sentinel, .sentinel, .listed, .data, .pinned], laidTests := true, laidLooks := .later }
def StreamCutUptoCardSaid : Prop := Claim7.holds Tryz.pinned (.plain (OpenSpec.upto streamCutSpec)) streamCutUptoCard

/-- THE SECOND FORM's CARD OF 'praxinoscopelaw21.StreamAgain'. -/
def streamAgainUptoCard : Claim7 := { stood := { row := streamAgainUptoRow, standIns := [], harness := (true, "91779f5d06dc373f9c3dba87b9ee568791966ea4b0ef2646d8be03c2385c3869"), looks := true }, kinds := [], alts := [], laidByText := true, laidKinds := [.data, .data, .data, .data, .sentinel, .sentinel, .listed, .data, .pinned], laidTests := true, laidLooks := .later }
def StreamAgainUptoCardSaid : Prop := Claim7.holds Tryz.pinned (.plain (OpenSpec.upto streamAgainSpec)) streamAgainUptoCard
end Rows
end Go.Proofs.YthhijgcfbjcgiaaGreatDoor
