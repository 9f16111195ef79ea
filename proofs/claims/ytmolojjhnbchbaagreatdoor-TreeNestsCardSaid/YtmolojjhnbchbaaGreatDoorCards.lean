/-
  DERIVED. GIVEN WITH THE SEED: THE CARDS: each row of YtmolojjhnbchbaaGreatDoorRows.lean that lists a variable, with what it lists TIED to the program's text (the seventh form; the later family's looks); each row that meets fmt, with fmt's text TOLD by the authors' own Lean function (tested against real Go, not proved from fmt's source: count such statements apart). THE CARD IS WHAT COUNTS. Prove the row's statement (the work); the ties are given (YtmolojjhnbchbaaGreatDoorTie.lean); close each card by the builder's one call (the guide's Derived/Test/ToyasCard.lean, 'card_holds'). Laid BY PROGRAM, IN A SANDBOX (cutbox-door.mjs). By AI agents, Wed Nov 11 2026. No macro, syntax, notation, axiom, sorry.
-/
import Derived.Test.YtmolojjhnbchbaaGreatDoorRows
import GoSem.ClaimSeven
namespace Go.Proofs.YtmolojjhnbchbaaGreatDoor
namespace Rows

/-- THE TIED CARD OF 'consistorylaw9.TreeNests'. -/
def treeNestsCard : Claim7 := { stood := { row := treeNestsRow, standIns := [], harness := (true, "1e0bc995ded2cd1cb9e2dd7cf1ffac0a671a12e173503cc9658b2558438951c2"), looks := true }, kinds := [], alts := [], laidByText := true, laidKinds := [.data, .data, .data, .data, .handle, .pinned], laidTests := true, laidLooks := .later }
def TreeNestsCardSaid : Prop := Claim7.holds Tryz.pinned (.plain (OpenSpec.ofChange treeNestsSpec)) treeNestsCard

/-- THE SECOND FORM's CARD OF 'consistorylaw9.TreeNests'. -/
def treeNestsUptoCard : Claim7 := { stood := { row := treeNestsUptoRow, standIns := [], harness := (true, "1e0bc995ded2cd1cb9e2dd7cf1ffac0a671a12e173503cc9658b2558438951c2"), looks := true }, kinds := [], alts := [], laidByText := true, laidKinds := [.data, .data, .data, .data, .handle, .pinned], laidTests := true, laidLooks := .later }
def TreeNestsUptoCardSaid : Prop := Claim7.holds Tryz.pinned (.plain (OpenSpec.upto treeNestsSpec)) treeNestsUptoCard
end Rows
end Go.Proofs.YtmolojjhnbchbaaGreatDoor
