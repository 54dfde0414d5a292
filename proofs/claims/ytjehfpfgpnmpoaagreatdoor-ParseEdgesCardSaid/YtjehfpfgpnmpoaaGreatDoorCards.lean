/-
  DERIVED. GIVEN WITH THE SEED: THE CARDS: each row of YtjehfpfgpnmpoaaGreatDoorRows.lean that lists a variable, with what it lists TIED to the program's text (the seventh form; the later family's looks); each row that meets fmt, with fmt's text TOLD by the authors' own Lean function (tested against real Go, not proved from fmt's source: count such statements apart). THE CARD IS WHAT COUNTS. Prove the row's statement (the work); the ties are given (YtjehfpfgpnmpoaaGreatDoorTie.lean); close each card by the builder's one call (the guide's Derived/Test/ToyasCard.lean, 'card_holds'). Laid BY PROGRAM, IN A SANDBOX (cutbox-door.mjs). By AI agents, Wed Nov 11 2026. No macro, syntax, notation, axiom, sorry.
-/
import Derived.Test.YtjehfpfgpnmpoaaGreatDoorRows
import GoSem.ClaimSeven
namespace Go.Proofs.YtjehfpfgpnmpoaaGreatDoor
namespace Rows

/-- THE TIED CARD OF 'credencelaw07.ParseNames'. -/
def parseNamesCard : Claim7 := { stood := { row := parseNamesRow, standIns := [], harness := (true, "8163f964a1f46f391e2288e930045ccaec2a750c5d45237c83380e4d7d627a1d"), looks := true }, kinds := [], alts := [], laidByText := true, laidKinds := [.data, .handle, .pinned], laidTests := true, laidLooks := .later }
def ParseNamesCardSaid : Prop := Claim7.holds Tryz.pinned (.plain (OpenSpec.ofChange parseNamesSpec)) parseNamesCard

/-- THE TIED CARD OF 'credencelaw07.ParseEdges'. -/
def parseEdgesCard : Claim7 := { stood := { row := parseEdgesRow, standIns := [], harness := (true, "8163f964a1f46f391e2288e930045ccaec2a750c5d45237c83380e4d7d627a1d"), looks := true }, kinds := [], alts := [], laidByText := true, laidKinds := [.data, .handle, .pinned], laidTests := true, laidLooks := .later }
def ParseEdgesCardSaid : Prop := Claim7.holds Tryz.pinned (.plain (OpenSpec.ofChange parseEdgesSpec)) parseEdgesCard

/-- THE TIED CARD OF 'credencelaw08.ShowNames'. -/
def showNamesCard : Claim7 := { stood := { row := showNamesRow, standIns := [], harness := (true, "8163f964a1f46f391e2288e930045ccaec2a750c5d45237c83380e4d7d627a1d"), looks := true }, kinds := [], alts := [], laidByText := true, laidKinds := [.data, .handle, .pinned], laidTests := true, laidLooks := .later }
def ShowNamesCardSaid : Prop := Claim7.holds Tryz.pinned (.plain (OpenSpec.ofChange showNamesSpec)) showNamesCard

/-- THE SECOND FORM's CARD OF 'credencelaw07.ParseNames'. -/
def parseNamesUptoCard : Claim7 := { stood := { row := parseNamesUptoRow, standIns := [], harness := (true, "8163f964a1f46f391e2288e930045ccaec2a750c5d45237c83380e4d7d627a1d"), looks := true }, kinds := [], alts := [], laidByText := true, laidKinds := [.data, .handle, .pinned], laidTests := true, laidLooks := .later }
def ParseNamesUptoCardSaid : Prop := Claim7.holds Tryz.pinned (.plain (OpenSpec.upto parseNamesSpec)) parseNamesUptoCard

/-- THE SECOND FORM's CARD OF 'credencelaw07.ParseEdges'. -/
def parseEdgesUptoCard : Claim7 := { stood := { row := parseEdgesUptoRow, standIns := [], harness := (true, "8163f964a1f46f391e2288e930045ccaec2a750c5d45237c83380e4d7d627a1d"), looks := true }, kinds := [], alts := [], laidByText := true, laidKinds := [.data, .handle, .pinned], laidTests := true, laidLooks := .later }
def ParseEdgesUptoCardSaid : Prop := Claim7.holds Tryz.pinned (.plain (OpenSpec.upto parseEdgesSpec)) parseEdgesUptoCard

/-- THE SECOND FORM's CARD OF 'credencelaw08.ShowNames'. -/
def showNamesUptoCard : Claim7 := { stood := { row := showNamesUptoRow, standIns := [], harness := (true, "8163f964a1f46f391e2288e930045ccaec2a750c5d45237c83380e4d7d627a1d"), looks := true }, kinds := [], alts := [], laidByText := true, laidKinds := [.data, .handle, .pinned], laidTests := true, laidLooks := .later }
def ShowNamesUptoCardSaid : Prop := Claim7.holds Tryz.pinned (.plain (OpenSpec.upto showNamesSpec)) showNamesUptoCard
end Rows
end Go.Proofs.YtjehfpfgpnmpoaaGreatDoor
