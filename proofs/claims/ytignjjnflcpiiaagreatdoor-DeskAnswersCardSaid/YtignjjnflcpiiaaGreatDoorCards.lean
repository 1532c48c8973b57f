/-
  DERIVED. GIVEN WITH THE SEED: THE CARDS: each row of YtignjjnflcpiiaaGreatDoorRows.lean that lists a variable, with what it lists TIED to the program's text (the seventh form; the later family's looks); each row that meets fmt, with fmt's text TOLD by the authors' own Lean function (tested against real Go, not proved from fmt's source: count such statements apart). THE CARD IS WHAT COUNTS. Prove the row's statement (the work); the ties are given (YtignjjnflcpiiaaGreatDoorTie.lean); close each card by the builder's one call (the guide's Derived/Test/ToyasCard.lean, 'card_holds'). Laid BY PROGRAM, IN A SANDBOX (cutbox-door.mjs). By AI agents, Wed Nov 11 2026. No macro, syntax, notation, axiom, sorry.
-/
import Derived.Test.YtignjjnflcpiiaaGreatDoorRows
import GoSem.ClaimSeven
namespace Go.Proofs.YtignjjnflcpiiaaGreatDoor
namespace Rows

/-- THE TIED CARD OF 'binderykeep.BundleBinds'. -/
def bundleBindsCard : Claim7 := { stood := { row := bundleBindsRow, standIns := [], harness := (true, "6f0251da0188cf8eafed328b06f003c29786626d0e54394887c6c4c50c66b9af"), looks := true }, kinds := [], alts := [], goes := true, laidByText := true, laidKinds := [.data, .data, .data, .data, .handle, .widerDeep, .data, .pinned], laidTests := true, laidLooks := .later }
def BundleBindsCardSaid : Prop := Claim7.holds Tryz.pinned (.plain (OpenSpec.ofChange bundleBindsSpec)) bundleBindsCard

/-- THE TIED CARD OF 'binderylaw.BundlePlays'. -/
def bundlePlaysCard : Claim7 := { stood := { row := bundlePlaysRow, standIns := [], harness := (true, "6f0251da0188cf8eafed328b06f003c29786626d0e54394887c6c4c50c66b9af"), looks := true }, kinds := [], alts := [], goes := true, laidByText := true, laidKinds := [.data, .data, .data, .data, .handle, .widerDeep, .data, .pinned, .pinned], laidTests := true, laidLooks := .later }
def BundlePlaysCardSaid : Prop := Claim7.holds Tryz.pinned (.plain (OpenSpec.ofChange bundlePlaysSpec)) bundlePlaysCard

/-- THE TIED CARD OF 'binderykeep.DeskPieces'. -/
def deskPiecesCard : Claim7 := { stood := { row := deskPiecesRow, standIns := [], harness := (true, "6f0251da0188cf8eafed328b06f003c29786626d0e54394887c6c4c50c66b9af"), looks := true }, kinds := [], alts := [], goes := true, laidByText := true, laidKinds := [.data, .data, .data, .data, .handle, .sentinel, .sentinel, .widerDeep, .data, .pinned], laidTests := true, laidLooks := .later }
def DeskPiecesCardSaid : Prop := Claim7.holds Tryz.pinned (.plain (OpenSpec.ofChange deskPiecesSpec)) deskPiecesCard

/-- THE TIED CARD OF 'binderykeep.ManyWorkers'. -/
def manyWorkersCard : Claim7 := { stood := { row := manyWorkersRow, standIns := [], harness := (true, "6f0251da0188cf8eafed328b06f003c29786626d0e54394887c6c4c50c66b9af"), looks := true }, kinds := [], alts := [], goes := true, laidByText := true, laidKinds := [.data, .data, .data, .data, .handle, .sentinel, .sentinel, .widerDeep, .data, .pinned], laidTests := true, laidLooks := .later }
def ManyWorkersCardSaid : Prop := Claim7.holds Tryz.pinned (.plain (OpenSpec.ofChange manyWorkersSpec)) manyWorkersCard

/-- THE TIED CARD OF 'binderylaw.DeskAnswers'. -/
def deskAnswersCard : Claim7 := { stood := { row := deskAnswersRow, standIns := [], harness := (true, "6f0251da0188cf8eafed328b06f003c29786626d0e54394887c6c4c50c66b9af"), looks := true }, kinds := [], alts := [], goes := true, laidByText := true, laidKinds := [.data, .data, .data, .data, .handle, .sentinel, .sentinel, .widerDeep, .data, .pinned, .pinned], laidTests := true, laidLooks := .later }
def DeskAnswersCardSaid : Prop := Claim7.holds Tryz.pinned (.plain (OpenSpec.ofChange deskAnswersSpec)) deskAnswersCard

/-- THE TIED CARD OF 'binderylaw.ManyAnswers'. -/
def manyAnswersCard : Claim7 := { stood := { row := manyAnswersRow, standIns := [], harness := (true, "6f0251da0188cf8eafed328b06f003c29786626d0e54394887c6c4c50c66b9af"), looks := true }, kinds := [], alts := [], goes := true, laidByText := true, laidKinds := [.data, .data, .data, .data, .handle, .sentinel, .sentinel, .widerDeep, .data, .pinned, .pinned], laidTests := true, laidLooks := .later }
def ManyAnswersCardSaid : Prop := Claim7.holds Tryz.pinned (.plain (OpenSpec.ofChange manyAnswersSpec)) manyAnswersCard
end Rows
end Go.Proofs.YtignjjnflcpiiaaGreatDoor
