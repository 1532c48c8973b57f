/-
  DERIVED. GIVEN WITH THE SEED: THE CARDS: each row of YtignjjnflcpiiaaDoorRows.lean that lists a variable, with what it lists TIED to the program's text (the seventh form; the later family's looks); each row that meets fmt, with fmt's text TOLD by the authors' own Lean function (tested against real Go, not proved from fmt's source: count such statements apart). THE CARD IS WHAT COUNTS. Prove the row's statement (the work); the ties are given (YtignjjnflcpiiaaDoorTie.lean); close each card by the builder's one call (the guide's Derived/Test/ToyasCard.lean, 'card_holds'). Laid BY PROGRAM, IN A SANDBOX (cutbox-door.mjs). By AI agents, Wed Nov 11 2026. No macro, syntax, notation, axiom, sorry.
-/
import Derived.Test.YtignjjnflcpiiaaDoorRows
import GoSem.ClaimSeven
namespace Go.Proofs.YtignjjnflcpiiaaDoor
namespace Rows

/-- THE TIED CARD OF 'binderykeep.AddressLeads'. -/
def addressLeadsCard : Claim7 := { stood := { row := addressLeadsRow, standIns := [], harness := (true, "7beed38fab85eaf7a16d9c0c8a3f8425325a97527c0ed7656c8e4655ef8ec5ff"), looks := true }, kinds := [], alts := [], laidByText := true, laidKinds := [.data, .pinned], laidTests := true, laidLooks := .later }
def AddressLeadsCardSaid : Prop := Claim7.holds Tryd.pinned (.plain (OpenSpec.ofChange addressLeadsSpec)) addressLeadsCard

/-- THE TIED CARD OF 'binderylaw.AddressResolves'. -/
def addressResolvesCard : Claim7 := { stood := { row := addressResolvesRow, standIns := [], harness := (true, "7beed38fab85eaf7a16d9c0c8a3f8425325a97527c0ed7656c8e4655ef8ec5ff"), looks := true }, kinds := [], alts := [], laidByText := true, laidKinds := [.data, .handle, .pinned], laidTests := true, laidLooks := .later }
def AddressResolvesCardSaid : Prop := Claim7.holds Tryd.pinned (.plain (OpenSpec.ofChange addressResolvesSpec)) addressResolvesCard

/-- THE SECOND FORM's CARD OF 'binderykeep.AddressLeads'. -/
def addressLeadsUptoCard : Claim7 := { stood := { row := addressLeadsUptoRow, standIns := [], harness := (true, "7beed38fab85eaf7a16d9c0c8a3f8425325a97527c0ed7656c8e4655ef8ec5ff"), looks := true }, kinds := [], alts := [], laidByText := true, laidKinds := [.data, .pinned], laidTests := true, laidLooks := .later }
def AddressLeadsUptoCardSaid : Prop := Claim7.holds Tryd.pinned (.plain (OpenSpec.upto addressLeadsSpec)) addressLeadsUptoCard

/-- THE SECOND FORM's CARD OF 'binderylaw.AddressResolves'. -/
def addressResolvesUptoCard : Claim7 := { stood := { row := addressResolvesUptoRow, standIns := [], harness := (true, "7beed38fab85eaf7a16d9c0c8a3f8425325a97527c0ed7656c8e4655ef8ec5ff"), looks := true }, kinds := [], alts := [], laidByText := true, laidKinds := [.data, .handle, .pinned], laidTests := true, laidLooks := .later }
def AddressResolvesUptoCardSaid : Prop := Claim7.holds Tryd.pinned (.plain (OpenSpec.upto addressResolvesSpec)) addressResolvesUptoCard
end Rows
end Go.Proofs.YtignjjnflcpiiaaDoor
