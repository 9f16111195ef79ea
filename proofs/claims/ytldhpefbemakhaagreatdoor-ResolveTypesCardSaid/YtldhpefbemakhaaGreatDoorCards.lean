/-
  DERIVED. GIVEN WITH THE SEED: THE CARDS: each row of YtldhpefbemakhaaGreatDoorRows.lean that lists a variable, with what it lists TIED to the program's text (the seventh form; the later family's looks); each row that meets fmt, with fmt's text TOLD by the authors' own Lean function (tested against real Go, not proved from fmt's source: count such statements apart). THE CARD IS WHAT COUNTS. Prove the row's statement (the work); the ties are given (YtldhpefbemakhaaGreatDoorTie.lean); close each card by the builder's one call (the guide's Derived/Test/ToyasCard.lean, 'card_holds'). Laid BY PROGRAM, IN A SANDBOX (cutbox-door.mjs). By AI agents, Wed Nov 11 2026. No macro, syntax, notation, axiom, sorry.
-/
import Derived.Test.YtldhpefbemakhaaGreatDoorRows
import GoSem.ClaimSeven
namespace Go.Proofs.YtldhpefbemakhaaGreatDoor
namespace Rows

/-- THE TIED CARD OF 'consistorylaw13.ResolveNames'. -/
def resolveNamesCard : Claim7 := { stood := { row := resolveNamesRow, standIns := [], harness := (true, "254b6c3ed77069277acabbb0c1f0ab49b2563555d12200e7537cfa0ab84556db"), looks := true }, kinds := [], alts := [], laidByText := true, laidKinds := [.handle], laidTests := true, laidLooks := .later }
def ResolveNamesCardSaid : Prop := Claim7.holds Tryz.pinned (.plain (OpenSpec.ofChange resolveNamesSpec)) resolveNamesCard

/-- THE TIED CARD OF 'consistorylaw13.ResolveStars'. -/
def resolveStarsCard : Claim7 := { stood := { row := resolveStarsRow, standIns := [], harness := (true, "254b6c3ed77069277acabbb0c1f0ab49b2563555d12200e7537cfa0ab84556db"), looks := true }, kinds := [], alts := [], laidByText := true, laidKinds := [.handle], laidTests := true, laidLooks := .later }
def ResolveStarsCardSaid : Prop := Claim7.holds Tryz.pinned (.plain (OpenSpec.ofChange resolveStarsSpec)) resolveStarsCard

/-- THE TIED CARD OF 'consistorylaw13.ResolveGroups'. -/
def resolveGroupsCard : Claim7 := { stood := { row := resolveGroupsRow, standIns := [], harness := (true, "254b6c3ed77069277acabbb0c1f0ab49b2563555d12200e7537cfa0ab84556db"), looks := true }, kinds := [], alts := [], laidByText := true, laidKinds := [.handle], laidTests := true, laidLooks := .later }
def ResolveGroupsCardSaid : Prop := Claim7.holds Tryz.pinned (.plain (OpenSpec.ofChange resolveGroupsSpec)) resolveGroupsCard

/-- THE TIED CARD OF 'consistorylaw13.ResolveInserts'. -/
def resolveInsertsCard : Claim7 := { stood := { row := resolveInsertsRow, standIns := [], harness := (true, "254b6c3ed77069277acabbb0c1f0ab49b2563555d12200e7537cfa0ab84556db"), looks := true }, kinds := [], alts := [], laidByText := true, laidKinds := [.handle], laidTests := true, laidLooks := .later }
def ResolveInsertsCardSaid : Prop := Claim7.holds Tryz.pinned (.plain (OpenSpec.ofChange resolveInsertsSpec)) resolveInsertsCard

/-- THE TIED CARD OF 'consistorylaw13.ResolveTypes'. -/
def resolveTypesCard : Claim7 := { stood := { row := resolveTypesRow, standIns := [], harness := (true, "254b6c3ed77069277acabbb0c1f0ab49b2563555d12200e7537cfa0ab84556db"), looks := true }, kinds := [], alts := [], laidByText := true, laidKinds := [.handle], laidTests := true, laidLooks := .later }
def ResolveTypesCardSaid : Prop := Claim7.holds Tryz.pinned (.plain (OpenSpec.ofChange resolveTypesSpec)) resolveTypesCard

/-- THE SECOND FORM's CARD OF 'consistorylaw13.ResolveNames'. -/
def resolveNamesUptoCard : Claim7 := { stood := { row := resolveNamesUptoRow, standIns := [], harness := (true, "254b6c3ed77069277acabbb0c1f0ab49b2563555d12200e7537cfa0ab84556db"), looks := true }, kinds := [], alts := [], laidByText := true, laidKinds := [.handle], laidTests := true, laidLooks := .later }
def ResolveNamesUptoCardSaid : Prop := Claim7.holds Tryz.pinned (.plain (OpenSpec.upto resolveNamesSpec)) resolveNamesUptoCard

/-- THE SECOND FORM's CARD OF 'consistorylaw13.ResolveStars'. -/
def resolveStarsUptoCard : Claim7 := { stood := { row := resolveStarsUptoRow, standIns := [], harness := (true, "254b6c3ed77069277acabbb0c1f0ab49b2563555d12200e7537cfa0ab84556db"), looks := true }, kinds := [], alts := [], laidByText := true, laidKinds := [.handle], laidTests := true, laidLooks := .later }
def ResolveStarsUptoCardSaid : Prop := Claim7.holds Tryz.pinned (.plain (OpenSpec.upto resolveStarsSpec)) resolveStarsUptoCard

/-- THE SECOND FORM's CARD OF 'consistorylaw13.ResolveGroups'. -/
def resolveGroupsUptoCard : Claim7 := { stood := { row := resolveGroupsUptoRow, standIns := [], harness := (true, "254b6c3ed77069277acabbb0c1f0ab49b2563555d12200e7537cfa0ab84556db"), looks := true }, kinds := [], alts := [], laidByText := true, laidKinds := [.handle], laidTests := true, laidLooks := .later }
def ResolveGroupsUptoCardSaid : Prop := Claim7.holds Tryz.pinned (.plain (OpenSpec.upto resolveGroupsSpec)) resolveGroupsUptoCard

/-- THE SECOND FORM's CARD OF 'consistorylaw13.ResolveInserts'. -/
def resolveInsertsUptoCard : Claim7 := { stood := { row := resolveInsertsUptoRow, standIns := [], harness := (true, "254b6c3ed77069277acabbb0c1f0ab49b2563555d12200e7537cfa0ab84556db"), looks := true }, kinds := [], alts := [], laidByText := true, laidKinds := [.handle], laidTests := true, laidLooks := .later }
def ResolveInsertsUptoCardSaid : Prop := Claim7.holds Tryz.pinned (.plain (OpenSpec.upto resolveInsertsSpec)) resolveInsertsUptoCard

/-- THE SECOND FORM's CARD OF 'consistorylaw13.ResolveTypes'. -/
def resolveTypesUptoCard : Claim7 := { stood := { row := resolveTypesUptoRow, standIns := [], harness := (true, "254b6c3ed77069277acabbb0c1f0ab49b2563555d12200e7537cfa0ab84556db"), looks := true }, kinds := [], alts := [], laidByText := true, laidKinds := [.handle], laidTests := true, laidLooks := .later }
def ResolveTypesUptoCardSaid : Prop := Claim7.holds Tryz.pinned (.plain (OpenSpec.upto resolveTypesSpec)) resolveTypesUptoCard
end Rows
end Go.Proofs.YtldhpefbemakhaaGreatDoor
