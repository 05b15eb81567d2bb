/-
  DERIVED. GIVEN WITH THE SEED: THE CARDS: each row of YtcojnigkgbmbmaaGreatDoorRows.lean that lists a variable, with what it lists TIED to the program's text (the seventh form; the later family's looks); each row that meets fmt, with fmt's text TOLD by the authors' own Lean function (tested against real Go, not proved from fmt's source: count such statements apart). THE CARD IS WHAT COUNTS. Prove the row's statement (the work); the ties are given (YtcojnigkgbmbmaaGreatDoorTie.lean); close each card by the builder's one call (the guide's Derived/Test/ToyasCard.lean, 'card_holds'). Laid BY PROGRAM, IN A SANDBOX (cutbox-door.mjs). By AI agents, Wed Nov 11 2026. No macro, syntax, notation, axiom, sorry.
-/
import Derived.Test.YtcojnigkgbmbmaaGreatDoorRows
import GoSem.ClaimSeven
namespace Go.Proofs.YtcojnigkgbmbmaaGreatDoor
namespace Rows

/-- THE TIED CARD OF 'praxinoscopelaw19.MacroReads'. -/
def macroReadsCard : Claim7 := { stood := { row := macroReadsRow, standIns := [], harness := (true, "37e26e35c20aee3a6546702dfa2dbbe3312f3234d353a6fef845f45ac2ab4d3c"), looks := true }, kinds := [], alts := [], laidByText := true, laidKinds := [.data, .data, .data, .data, .sentinel, .sentinel, .listed, .data, .pinned], laidTests := true, laidLooks := .later }
def MacroReadsCardSaid : Prop := Claim7.holds Tryz.pinned (.plain (OpenSpec.ofChange macroReadsSpec)) macroReadsCard

/-- THE TIED CARD OF 'praxinoscopelaw19.MacroTells'. -/
def macroTellsCard : Claim7 := { stood := { row := macroTellsRow, standIns := [], harness := (true, "37e26e35c20aee3a6546702dfa2dbbe3312f3234d353a6fef845f45ac2ab4d3c"), looks := true }, kinds := [], alts := [], laidByText := true, laidKinds := [.data, .data, .data, .data, .sentinel, .sentinel, .listed, .data, .pinned], laidTests := true, laidLooks := .later }
def MacroTellsCardSaid : Prop := Claim7.holds Tryz.pinned (.plain (OpenSpec.ofChange macroTellsSpec)) macroTellsCard

/-- THE TIED CARD OF 'praxinoscopelaw19.MacroKnown'. -/
def macroKnownCard : Claim7 := { stood := { row := macroKnownRow, standIns := [], harness := (true, "37e26e35c20aee3a6546702dfa2dbbe3312f3234d353a6fef845f45ac2ab4d3c"), looks := true }, kinds := [], alts := [], laidByText := true, laidKinds := [.data, .data, .data, .data, .sentinel, .sentinel, .listed, .data, .pinned], laidTests := true, laidLooks := .later }
def MacroKnownCardSaid : Prop := Claim7.holds Tryz.pinned (.plain (OpenSpec.ofChange macroKnownSpec)) macroKnownCard

/-- THE TIED CARD OF 'praxinoscopelaw19.MacroPredicts'. -/
def macroPredictsCard : Claim7 := { stood := { row := macroPredictsRow, standIns := [], harness := (true, "37e26e35c20aee3a6546702dfa2dbbe3312f3234d353a6fef845f45ac2ab4d3c"), looks := true }, kinds := [], alts := [], laidByText := true, laidKinds := [.data, .data, .data, .data, .sentinel, .sentinel, .listed, .data, .pinned], laidTests := true, laidLooks := .later }
def MacroPredictsCardSaid : Prop := Claim7.holds Tryz.pinned (.plain (OpenSpec.ofChange macroPredictsSpec)) macroPredictsCard

/-- THE TIED CARD OF 'praxinoscopelaw19.MacroAgain'. -/
def macroAgainCard : Claim7 := { stood := { row := macroAgainRow, standIns := [], harness := (true, "37e26e35c20aee3a6546702dfa2dbbe3312f3234d353a6fef845f45ac2ab4d3c"), looks := true }, kinds := [], alts := [], laidByText := true, laidKinds := [.data, .data, .data, .data, .sentinel, .sentinel, .listed, .data, .pinned], laidTests := true, laidLooks := .later }
def MacroAgainCardSaid : Prop := Claim7.holds Tryz.pinned (.plain (OpenSpec.ofChange macroAgainSpec)) macroAgainCard

/-- THE TIED CARD OF 'praxinoscopelaw19.MacroBack'. -/
def macroBackCard : Claim7 := { stood := { row := macroBackRow, standIns := [], harness := (true, "37e26e35c20aee3a6546702dfa2dbbe3312f3234d353a6fef845f45ac2ab4d3c"), looks := true }, kinds := [], alts := [], laidByText := true, laidKinds := [.data, .data, .data, .data, .sentinel, .sentinel, .listed, .data, .pinned], laidTests := true, laidLooks := .later }
def MacroBackCardSaid : Prop := Claim7.holds Tryz.pinned (.plain (OpenSpec.ofChange macroBackSpec)) macroBackCard

/-- THE SECOND FORM's CARD OF 'praxinoscopelaw19.MacroReads'. -/
def macroReadsUptoCard : Claim7 := { stood := { row := macroReadsUptoRow, standIns := [], harness := (true, "37e26e35c20aee3a6546702dfa2dbbe3312f3234d353a6fef845f45ac2ab4d3c"), looks := true }, kinds := [], alts := [], laidByText := true, laidKinds := [.data, .data, .data, .data, .sentinel, .sentinel, .listed, .data, .pinned], laidTests := true, laidLooks := .later }
def MacroReadsUptoCardSaid : Prop := Claim7.holds Tryz.pinned (.plain (OpenSpec.upto macroReadsSpec)) macroReadsUptoCard

/-- THE SECOND FORM's CARD OF 'praxinoscopelaw19.MacroTells'. -/
def macroTellsUptoCard : Claim7 := { stood := { row := macroTellsUptoRow, standIns := [], harness := (true, "37e26e35c20aee3a6546702dfa2dbbe3312f3234d353a6fef845f45ac2ab4d3c"), looks := true }, kinds := [], alts := [], laidByText := true, laidKinds := [.data, .data, .data, .data, .sentinel, .sentinel, .listed, .data, .pinned], laidTests := true, laidLooks := .later }
def MacroTellsUptoCardSaid : Prop := Claim7.holds Tryz.pinned (.plain (OpenSpec.upto macroTellsSpec)) macroTellsUptoCard

/-- THE SECOND FORM's CARD OF 'praxinoscopelaw19.MacroKnown'. -/
def macroKnownUptoCard : Claim7 := { stood := { row := macroKnownUptoRow, standIns := [], harness := (true, "37e26e35c20aee3a6546702dfa2dbbe3312f3234d353a6fef845f45ac2ab4d3c"), looks := true }, kinds := [], alts := [], laidByText := true, laidKinds := [.data, .data, .data, .data, .sentinel, .sentinel, .listed, .data, .pinned], laidTests := true, laidLooks := .later }
def MacroKnownUptoCardSaid : Prop := Claim7.holds Tryz.pinned (.plain (OpenSpec.upto macroKnownSpec)) macroKnownUptoCard

/-- THE SECOND FORM's CARD OF 'praxinoscopelaw19.MacroPredicts'. -/
def macroPredictsUptoCard : Claim7 := { stood := { row := macroPredictsUptoRow, standIns := [], harness := (true, "37e26e35c20aee3a6546702dfa2dbbe3312f3234d353a6fef845f45ac2ab4d3c"), looks := true }, kinds := [], alts := [], laidByText := true, laidKinds := [.data, .data, .data, .data, .sentinel, .sentinel, .listed, .data, .pinned], laidTests := true, laidLooks := .later }
def MacroPredictsUptoCardSaid : Prop := Claim7.holds Tryz.pinned (.plain (OpenSpec.upto macroPredictsSpec)) macroPredictsUptoCard

/-- THE SECOND FORM's CARD OF 'praxinoscopelaw19.MacroAgain'. -/
def macroAgainUptoCard : Claim7 := { stood := { row := macroAgainUptoRow, standIns := [], harness := (true, "37e26e35c20aee3a6546702dfa2dbbe3312f3234d353a6fef845f45ac2ab4d3c"), looks := true }, kinds := [], alts := [], laidByText := true, laidKinds := [.data, .data, .data, .data, .sentinel, .sentinel, .listed, .data, .pinned], laidTests := true, laidLooks := .later }
def MacroAgainUptoCardSaid : Prop := Claim7.holds Tryz.pinned (.plain (OpenSpec.upto macroAgainSpec)) macroAgainUptoCard

/-- THE SECOND FORM's CARD OF 'praxinoscopelaw19.MacroBack'. -/
def macroBackUptoCard : Claim7 := { stood := { row := macroBackUptoRow, standIns := [], harness := (true, "37e26e35c20aee3a6546702dfa2dbbe3312f3234d353a6fef845f45ac2ab4d3c"), looks := true }, kinds := [], alts := [], laidByText := true, laidKinds := [.data, .data, .data, .data, .sentinel, .sentinel, .listed, .data, .pinned], laidTests := true, laidLooks := .later }
def MacroBackUptoCardSaid : Prop := Claim7.holds Tryz.pinned (.plain (OpenSpec.upto macroBackSpec)) macroBackUptoCard
end Rows
end Go.Proofs.YtcojnigkgbmbmaaGreatDoor
