/-
  DERIVED. GIVEN WITH THE SEED: THE CARDS: each row of YtfdgaoihjedamaaGreatDoorRows.lean that lists a variable, with what it lists TIED to the program's text (the seventh form; the later family's looks); each row that meets fmt, with fmt's text TOLD by the authors' own Lean function (tested against real Go, not proved from fmt's source: count such statements apart). THE CARD IS WHAT COUNTS. Prove the row's statement (the work); the ties are given (YtfdgaoihjedamaaGreatDoorTie.lean); close each card by the builder's one call (the guide's Derived/Test/ToyasCard.lean, 'card_holds'). Laid BY PROGRAM, IN A SANDBOX (cutbox-door.mjs). By AI agents, Wed Nov 11 2026. No macro, syntax, notation, axiom, sorry.
-/
import Derived.Test.YtfdgaoihjedamaaGreatDoorRows
import GoSem.ClaimSeven
namespace Go.Proofs.YtfdgaoihjedamaaGreatDoor
namespace Rows

/-- THE TIED CARD OF 'credencelaw07.ParseNumbers'. -/
def parseNumbersCard : Claim7 := { stood := { row := parseNumbersRow, standIns := [], harness := (true, "b90ed616026f139d2c7fc69401227a0d24a9bc8e3f663a60455152699b090594"), looks := true }, kinds := [], alts := [], laidByText := true, laidKinds := [.data, .handle, .pinned], laidTests := true, laidLooks := .later }
def ParseNumbersCardSaid : Prop := Claim7.holds Tryz.pinned (.plain (OpenSpec.ofChange parseNumbersSpec)) parseNumbersCard

/-- THE TIED CARD OF 'credencelaw07.ParseFile'. -/
def parseFileCard : Claim7 := { stood := { row := parseFileRow, standIns := [], harness := (true, "b90ed616026f139d2c7fc69401227a0d24a9bc8e3f663a60455152699b090594"), looks := true }, kinds := [], alts := [], laidByText := true, laidKinds := [.data, .handle, .pinned], laidTests := true, laidLooks := .later }
def ParseFileCardSaid : Prop := Claim7.holds Tryz.pinned (.plain (OpenSpec.ofChange parseFileSpec)) parseFileCard

/-- THE TIED CARD OF 'credencelaw07.ParseOwn'. -/
def parseOwnCard : Claim7 := { stood := { row := parseOwnRow, standIns := [], harness := (true, "b90ed616026f139d2c7fc69401227a0d24a9bc8e3f663a60455152699b090594"), looks := true }, kinds := [], alts := [], laidByText := true, laidKinds := [.data, .handle, .pinned], laidTests := true, laidLooks := .later }
def ParseOwnCardSaid : Prop := Claim7.holds Tryz.pinned (.plain (OpenSpec.ofChange parseOwnSpec)) parseOwnCard

/-- THE SECOND FORM's CARD OF 'credencelaw07.ParseNumbers'. -/
def parseNumbersUptoCard : Claim7 := { stood := { row := parseNumbersUptoRow, standIns := [], harness := (true, "b90ed616026f139d2c7fc69401227a0d24a9bc8e3f663a60455152699b090594"), looks := true }, kinds := [], alts := [], laidByText := true, laidKinds := [.data, .handle, .pinned], laidTests := true, laidLooks := .later }
def ParseNumbersUptoCardSaid : Prop := Claim7.holds Tryz.pinned (.plain (OpenSpec.upto parseNumbersSpec)) parseNumbersUptoCard

/-- THE SECOND FORM's CARD OF 'credencelaw07.ParseFile'. -/
def parseFileUptoCard : Claim7 := { stood := { row := parseFileUptoRow, standIns := [], harness := (true, "b90ed616026f139d2c7fc69401227a0d24a9bc8e3f663a60455152699b090594"), looks := true }, kinds := [], alts := [], laidByText := true, laidKinds := [.data, .handle, .pinned], laidTests := true, laidLooks := .later }
def ParseFileUptoCardSaid : Prop := Claim7.holds Tryz.pinned (.plain (OpenSpec.upto parseFileSpec)) parseFileUptoCard

/-- THE SECOND FORM's CARD OF 'credencelaw07.ParseOwn'. -/
def parseOwnUptoCard : Claim7 := { stood := { row := parseOwnUptoRow, standIns := [], harness := (true, "b90ed616026f139d2c7fc69401227a0d24a9bc8e3f663a60455152699b090594"), looks := true }, kinds := [], alts := [], laidByText := true, laidKinds := [.data, .handle, .pinned], laidTests := true, laidLooks := .later }
def ParseOwnUptoCardSaid : Prop := Claim7.holds Tryz.pinned (.plain (OpenSpec.upto parseOwnSpec)) parseOwnUptoCard
end Rows
end Go.Proofs.YtfdgaoihjedamaaGreatDoor
