/-
  DERIVED. GIVEN WITH THE SEED: THE CARDS: each row of YthdlmflmglgcpaaGreatDoorRows.lean that lists a variable, with what it lists TIED to the program's text (the seventh form; the later family's looks); each row that meets fmt, with fmt's text TOLD by the authors' own Lean function (tested against real Go, not proved from fmt's source: count such statements apart). THE CARD IS WHAT COUNTS. Prove the row's statement (the work); the ties are given (YthdlmflmglgcpaaGreatDoorTie.lean); close each card by the builder's one call (the guide's Derived/Test/ToyasCard.lean, 'card_holds'). Laid BY PROGRAM, IN A SANDBOX (cutbox-door.mjs). By AI agents, Wed Nov 11 2026. No macro, syntax, notation, axiom, sorry.
-/
import Derived.Test.YthdlmflmglgcpaaGreatDoorRows
import GoSem.ClaimSeven
namespace Go.Proofs.YthdlmflmglgcpaaGreatDoor
namespace Rows

/-- THE TIED CARD OF 'credencelaw19.ModelNames'. -/
def modelNamesCard : Claim7 := { stood := { row := modelNamesRow, standIns := [], harness := (true, "f51b33e083d79777a5fc6a3ef3b3ac5fd55717847b2cc12e3fb13d29d3c2a675"), looks := true }, kinds := [], alts := [], laidByText := true, laidKinds := [.data, .handle, .pinned], laidTests := true, laidLooks := .later }
def ModelNamesCardSaid : Prop := Claim7.holds Tryz.pinned (.plain (OpenSpec.ofChange modelNamesSpec)) modelNamesCard

/-- THE TIED CARD OF 'credencelaw19.ModelEdges'. -/
def modelEdgesCard : Claim7 := { stood := { row := modelEdgesRow, standIns := [], harness := (true, "f51b33e083d79777a5fc6a3ef3b3ac5fd55717847b2cc12e3fb13d29d3c2a675"), looks := true }, kinds := [], alts := [], laidByText := true, laidKinds := [.data, .handle, .pinned], laidTests := true, laidLooks := .later }
def ModelEdgesCardSaid : Prop := Claim7.holds Tryz.pinned (.plain (OpenSpec.ofChange modelEdgesSpec)) modelEdgesCard

/-- THE TIED CARD OF 'credencelaw19.ModelMany'. -/
def modelManyCard : Claim7 := { stood := { row := modelManyRow, standIns := [], harness := (true, "f51b33e083d79777a5fc6a3ef3b3ac5fd55717847b2cc12e3fb13d29d3c2a675"), looks := true }, kinds := [], alts := [], laidByText := true, laidKinds := [.data, .handle, .pinned], laidTests := true, laidLooks := .later }
def ModelManyCardSaid : Prop := Claim7.holds Tryz.pinned (.plain (OpenSpec.ofChange modelManySpec)) modelManyCard

/-- THE SECOND FORM's CARD OF 'credencelaw19.ModelNames'. -/
def modelNamesUptoCard : Claim7 := { stood := { row := modelNamesUptoRow, standIns := [], harness := (true, "f51b33e083d79777a5fc6a3ef3b3ac5fd55717847b2cc12e3fb13d29d3c2a675"), looks := true }, kinds := [], alts := [], laidByText := true, laidKinds := [.data, .handle, .pinned], laidTests := true, laidLooks := .later }
def ModelNamesUptoCardSaid : Prop := Claim7.holds Tryz.pinned (.plain (OpenSpec.upto modelNamesSpec)) modelNamesUptoCard

/-- THE SECOND FORM's CARD OF 'credencelaw19.ModelEdges'. -/
def modelEdgesUptoCard : Claim7 := { stood := { row := modelEdgesUptoRow, standIns := [], harness := (true, "f51b33e083d79777a5fc6a3ef3b3ac5fd55717847b2cc12e3fb13d29d3c2a675"), looks := true }, kinds := [], alts := [], laidByText := true, laidKinds := [.data, .handle, .pinned], laidTests := true, laidLooks := .later }
def ModelEdgesUptoCardSaid : Prop := Claim7.holds Tryz.pinned (.plain (OpenSpec.upto modelEdgesSpec)) modelEdgesUptoCard

/-- THE SECOND FORM's CARD OF 'credencelaw19.ModelMany'. -/
def modelManyUptoCard : Claim7 := { stood := { row := modelManyUptoRow, standIns := [], harness := (true, "f51b33e083d79777a5fc6a3ef3b3ac5fd55717847b2cc12e3fb13d29d3c2a675"), looks := true }, kinds := [], alts := [], laidByText := true, laidKinds := [.data, .handle, .pinned], laidTests := true, laidLooks := .later }
def ModelManyUptoCardSaid : Prop := Claim7.holds Tryz.pinned (.plain (OpenSpec.upto modelManySpec)) modelManyUptoCard
end Rows
end Go.Proofs.YthdlmflmglgcpaaGreatDoor
