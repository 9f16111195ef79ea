/-
  DERIVED. GIVEN WITH THE SEED: THE CARDS: each row of YtelopbcbmckbcaaGreatDoorRows.lean that lists a variable, with what it lists TIED to the program's text (the seventh form; the later family's looks); each row that meets fmt, with fmt's text TOLD by the authors' own Lean function (tested against real Go, not proved from fmt's source: count such statements apart). THE CARD IS WHAT COUNTS. Prove the row's statement (the work); the ties are given (YtelopbcbmckbcaaGreatDoorTie.lean); close each card by the builder's one call (the guide's Derived/Test/ToyasCard.lean, 'card_holds'). Laid BY PROGRAM, IN A SANDBOX (cutbox-door.mjs). By AI agents, Wed Nov 11 2026. No macro, syntax, notation, axiom, sorry.
-/
import Derived.Test.YtelopbcbmckbcaaGreatDoorRows
import GoSem.ClaimSeven
namespace Go.Proofs.YtelopbcbmckbcaaGreatDoor
namespace Rows

/-- THE TIED CARD OF 'consistorylaw11.CatalogApplies'. -/
def catalogAppliesCard : Claim7 := { stood := { row := catalogAppliesRow, standIns := [], harness := (true, "571af97bf0c64871fd8c27f6b24df4c188248979e279716be3480333e98c3ced"), looks := true }, kinds := [], alts := [], laidByText := true, laidKinds := [.handle], laidTests := true, laidLooks := .later }
def CatalogAppliesCardSaid : Prop := Claim7.holds Tryz.pinned (.plain (OpenSpec.ofChange catalogAppliesSpec)) catalogAppliesCard

/-- THE TIED CARD OF 'consistorylaw11.CatalogMany'. -/
def catalogManyCard : Claim7 := { stood := { row := catalogManyRow, standIns := [], harness := (true, "571af97bf0c64871fd8c27f6b24df4c188248979e279716be3480333e98c3ced"), looks := true }, kinds := [], alts := [], laidByText := true, laidKinds := [.handle], laidTests := true, laidLooks := .later }
def CatalogManyCardSaid : Prop := Claim7.holds Tryz.pinned (.plain (OpenSpec.ofChange catalogManySpec)) catalogManyCard

/-- THE TIED CARD OF 'consistorylaw11.CatalogNames'. -/
def catalogNamesCard : Claim7 := { stood := { row := catalogNamesRow, standIns := [], harness := (true, "571af97bf0c64871fd8c27f6b24df4c188248979e279716be3480333e98c3ced"), looks := true }, kinds := [], alts := [], laidByText := true, laidKinds := [.handle], laidTests := true, laidLooks := .later }
def CatalogNamesCardSaid : Prop := Claim7.holds Tryz.pinned (.plain (OpenSpec.ofChange catalogNamesSpec)) catalogNamesCard

/-- THE TIED CARD OF 'consistorylaw11.CatalogIs'. -/
def catalogIsCard : Claim7 := { stood := { row := catalogIsRow, standIns := [], harness := (true, "571af97bf0c64871fd8c27f6b24df4c188248979e279716be3480333e98c3ced"), looks := true }, kinds := [], alts := [], laidByText := true, laidKinds := [.handle], laidTests := true, laidLooks := .later }
def CatalogIsCardSaid : Prop := Claim7.holds Tryz.pinned (.plain (OpenSpec.ofChange catalogIsSpec)) catalogIsCard

/-- THE SECOND FORM's CARD OF 'consistorylaw11.CatalogApplies'. -/
def catalogAppliesUptoCard : Claim7 := { stood := { row := catalogAppliesUptoRow, standIns := [], harness := (true, "571af97bf0c64871fd8c27f6b24df4c188248979e279716be3480333e98c3ced"), looks := true }, kinds := [], alts := [], laidByText := true, laidKinds := [.handle], laidTests := true, laidLooks := .later }
def CatalogAppliesUptoCardSaid : Prop := Claim7.holds Tryz.pinned (.plain (OpenSpec.upto catalogAppliesSpec)) catalogAppliesUptoCard

/-- THE SECOND FORM's CARD OF 'consistorylaw11.CatalogMany'. -/
def catalogManyUptoCard : Claim7 := { stood := { row := catalogManyUptoRow, standIns := [], harness := (true, "571af97bf0c64871fd8c27f6b24df4c188248979e279716be3480333e98c3ced"), looks := true }, kinds := [], alts := [], laidByText := true, laidKinds := [.handle], laidTests := true, laidLooks := .later }
def CatalogManyUptoCardSaid : Prop := Claim7.holds Tryz.pinned (.plain (OpenSpec.upto catalogManySpec)) catalogManyUptoCard

/-- THE SECOND FORM's CARD OF 'consistorylaw11.CatalogNames'. -/
def catalogNamesUptoCard : Claim7 := { stood := { row := catalogNamesUptoRow, standIns := [], harness := (true, "571af97bf0c64871fd8c27f6b24df4c188248979e279716be3480333e98c3ced"), looks := true }, kinds := [], alts := [], laidByText := true, laidKinds := [.handle], laidTests := true, laidLooks := .later }
def CatalogNamesUptoCardSaid : Prop := Claim7.holds Tryz.pinned (.plain (OpenSpec.upto catalogNamesSpec)) catalogNamesUptoCard

/-- THE SECOND FORM's CARD OF 'consistorylaw11.CatalogIs'. -/
def catalogIsUptoCard : Claim7 := { stood := { row := catalogIsUptoRow, standIns := [], harness := (true, "571af97bf0c64871fd8c27f6b24df4c188248979e279716be3480333e98c3ced"), looks := true }, kinds := [], alts := [], laidByText := true, laidKinds := [.handle], laidTests := true, laidLooks := .later }
def CatalogIsUptoCardSaid : Prop := Claim7.holds Tryz.pinned (.plain (OpenSpec.upto catalogIsSpec)) catalogIsUptoCard
end Rows
end Go.Proofs.YtelopbcbmckbcaaGreatDoor
