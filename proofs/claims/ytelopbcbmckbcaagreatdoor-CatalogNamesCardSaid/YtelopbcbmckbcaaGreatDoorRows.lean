/-
  NARROWER THAN 'FOR EVERY INPUT', by the rows' own cells (each row's printed sentence says how): CatalogApplies: laid · CatalogMany: laid · CatalogNames: laid · CatalogIs: loops, laid.
  DERIVED. THE GIVEN ROWS OF THIS SEAT. 4 by the template 'for every input the law returns true; each argument reads behind the call as it read before'; 0 by the template 'total and deterministic' (their statements: YtelopbcbmckbcaaGreatDoorTotals.lean).
  GIVEN WITH THE SEED: the statements are not yours to turn. If you find one false, say at which input.
  Laid BY PROGRAM, IN A SANDBOX (cutbox-rows.mjs): the forced cells as the released guide's own fill.sh prints them over the translation 7474e9aee06683e8… (all of the seat's roots in one cut). By AI agents, Wed Nov 11 2026. No macro, syntax, notation, axiom, sorry.
-/
import Derived.Test.YtelopbcbmckbcaaGreatDoorChecked
import GoSem.Claim
import GoSem.ClaimJoined
import GoSem.ClaimMapViews
import Derived.JoinedTies
import Derived.KernelRfl
namespace Go.Proofs.YtelopbcbmckbcaaGreatDoor
/- THE CELL 'sum', in the pinned program and in every row, IS THE sha256 OF THE DUMP (.gsa) THAT YtelopbcbmckbcaaGreatDoorProg.lean LOADS. Nothing in Lean hashes anything: it is a label: what it is worth is what the hold of that sum in a sandbox is worth. -/
noncomputable def Tryz.pinned : Pinned := { name := "ytelopbcbmckbcaagreatdoor", sum := "7474e9aee06683e8286d91259b8ede7f5b4e80bf4f012356144919bc4030a8a7", checked := Tryz.checked }
namespace Rows
def none {H : Type} : Left H := { results := [], args := [] }

/- WHAT THE LISTED PACKAGE-LEVEL VARIABLES READ AS WHEN THE CALL BEGINS. Each datum BY PROGRAM (the guide's laid-datum.mjs) off the statement by which the dump's own 'gosem.cut.vars' lays the variable. In a bare row this is a premise. The card (YtelopbcbmckbcaaGreatDoorCards.lean) ties it to the program's text. -/
def laid_errors_errorType {H : Type} : DataW H := .iface "internal/reflectlite.rtype" (.agg [.ptr (.lit (.string [101, 114, 114, 111, 114]))])

/-- 'consistorylaw11.CatalogApplies': WHATEVER THE INPUT: true; the input reads as it did. -/
def catalogAppliesSpec : ChangeSpec := { name := "catalogApplies", fn := fun _ => fun
  | [d1, d2] => { results := [.lit (.bool true)], args := [d1, d2] }
  | _ => none }
def catalogAppliesRow : OpenClaim := { program := "ytelopbcbmckbcaagreatdoor", sum := "7474e9aee06683e8286d91259b8ede7f5b4e80bf4f012356144919bc4030a8a7", func := "consistory/consistorylaw11.CatalogApplies", spec := "catalogApplies", inPlace := ["internal/bytealg.IndexByteString", "internal/reflectlite.ValueOf", "(internal/reflectlite.Value).Type", "(internal/reflectlite.Value).IsNil", "internal/reflectlite.TypeOf", "(internal/reflectlite.Value).Elem", "(internal/reflectlite.Value).Set"], unfollowed := true, recurses := true, named := ["errors.errorType"], apart := false, laid := [("errors.errorType", laid_errors_errorType)] }
def CatalogAppliesSaid : Prop := catalogAppliesRow.holds Tryz.pinned (OpenSpec.ofChange catalogAppliesSpec)

/-- ITS FALSE NEIGHBOUR: 'it returns false'. Refute it at one input. -/
def catalogAppliesWrong : ChangeSpec := { name := "catalogApplies", fn := fun _ => fun
  | [d1, d2] => { results := [.lit (.bool false)], args := [d1, d2] }
  | _ => none }
def CatalogAppliesWrongFalsely : Prop := catalogAppliesRow.holds Tryz.pinned (OpenSpec.ofChange catalogAppliesWrong)

/-- 'consistorylaw11.CatalogMany': WHATEVER THE INPUT: true; the input reads as it did. -/
def catalogManySpec : ChangeSpec := { name := "catalogMany", fn := fun _ => fun
  | [d1, d2, d3] => { results := [.lit (.bool true)], args := [d1, d2, d3] }
  | _ => none }
def catalogManyRow : OpenClaim := { program := "ytelopbcbmckbcaagreatdoor", sum := "7474e9aee06683e8286d91259b8ede7f5b4e80bf4f012356144919bc4030a8a7", func := "consistory/consistorylaw11.CatalogMany", spec := "catalogMany", inPlace := ["internal/bytealg.IndexByteString", "internal/reflectlite.ValueOf", "(internal/reflectlite.Value).Type", "(internal/reflectlite.Value).IsNil", "internal/reflectlite.TypeOf", "(internal/reflectlite.Value).Elem", "(internal/reflectlite.Value).Set"], unfollowed := true, recurses := true, named := ["errors.errorType"], apart := false, laid := [("errors.errorType", laid_errors_errorType)] }
def CatalogManySaid : Prop := catalogManyRow.holds Tryz.pinned (OpenSpec.ofChange catalogManySpec)

/-- ITS FALSE NEIGHBOUR: 'it returns false'. Refute it at one input. -/
def catalogManyWrong : ChangeSpec := { name := "catalogMany", fn := fun _ => fun
  | [d1, d2, d3] => { results := [.lit (.bool false)], args := [d1, d2, d3] }
  | _ => none }
def CatalogManyWrongFalsely : Prop := catalogManyRow.holds Tryz.pinned (OpenSpec.ofChange catalogManyWrong)

/-- 'consistorylaw11.CatalogNames': WHATEVER THE INPUT: true; the input reads as it did. -/
def catalogNamesSpec : ChangeSpec := { name := "catalogNames", fn := fun _ => fun
  | [d] => { results := [.lit (.bool true)], args := [d] }
  | _ => none }
def catalogNamesRow : OpenClaim := { program := "ytelopbcbmckbcaagreatdoor", sum := "7474e9aee06683e8286d91259b8ede7f5b4e80bf4f012356144919bc4030a8a7", func := "consistory/consistorylaw11.CatalogNames", spec := "catalogNames", inPlace := ["internal/bytealg.IndexByteString", "internal/reflectlite.ValueOf", "(internal/reflectlite.Value).Type", "(internal/reflectlite.Value).IsNil", "internal/reflectlite.TypeOf", "(internal/reflectlite.Value).Elem", "(internal/reflectlite.Value).Set"], unfollowed := true, recurses := true, named := ["errors.errorType"], apart := false, laid := [("errors.errorType", laid_errors_errorType)] }
def CatalogNamesSaid : Prop := catalogNamesRow.holds Tryz.pinned (OpenSpec.ofChange catalogNamesSpec)

/-- ITS FALSE NEIGHBOUR: 'it returns false'. Refute it at one input. -/
def catalogNamesWrong : ChangeSpec := { name := "catalogNames", fn := fun _ => fun
  | [d] => { results := [.lit (.bool false)], args := [d] }
  | _ => none }
def CatalogNamesWrongFalsely : Prop := catalogNamesRow.holds Tryz.pinned (OpenSpec.ofChange catalogNamesWrong)

/-- 'consistorylaw11.CatalogIs': WHATEVER THE INPUT: true; the input reads as it did. -/
def catalogIsSpec : ChangeSpec := { name := "catalogIs", fn := fun _ => fun
  | [d1, d2, d3] => { results := [.lit (.bool true)], args := [d1, d2, d3] }
  | _ => none }
def catalogIsRow : OpenClaim := { program := "ytelopbcbmckbcaagreatdoor", sum := "7474e9aee06683e8286d91259b8ede7f5b4e80bf4f012356144919bc4030a8a7", func := "consistory/consistorylaw11.CatalogIs", spec := "catalogIs", inPlace := ["internal/bytealg.IndexByteString", "internal/reflectlite.ValueOf", "(internal/reflectlite.Value).Type", "(internal/reflectlite.Value).IsNil", "internal/reflectlite.TypeOf", "(internal/reflectlite.Value).Elem", "(internal/reflectlite.Value).Set"], unfollowed := true, recurses := true, named := ["errors.errorType"], loops := true, apart := false, laid := [("errors.errorType", laid_errors_errorType)] }
def CatalogIsSaid : Prop := catalogIsRow.holds Tryz.pinned (OpenSpec.ofChange catalogIsSpec)

/-- ITS FALSE NEIGHBOUR: 'it returns false'. Refute it at one input. -/
def catalogIsWrong : ChangeSpec := { name := "catalogIs", fn := fun _ => fun
  | [d1, d2, d3] => { results := [.lit (.bool false)], args := [d1, d2, d3] }
  | _ => none }
def CatalogIsWrongFalsely : Prop := catalogIsRow.holds Tryz.pinned (OpenSpec.ofChange catalogIsWrong)

/- THE SECOND FORM. 'bulk': how many values and letters a reading holds, each counted each time it is reached (what is shared counts as often as it is met; a slice's spare places count too). A statement '..UptoSaid' is the law's where the arguments, and the package variables that the reading takes, are together of bulk at most 1048576: NARROWER than '..Said'. Prove '..Said' where nothing that the law and all that it calls make is longer than what came in: it says more and counts as full. Else prove '..UptoSaid'. A law counts once. -/
mutual
def uptoBulk {H : Type} : DataW H → Nat
  | .lit (.string bytes) => bytes.length + 1
  | .lit _ => 1
  | .nil => 1
  | .ptr d => uptoBulk d + 1
  | .slice elems spare => uptoBulkAll elems + uptoBulkAll spare + 1
  | .agg parts => uptoBulkAll parts + 1
  | .iface _ d => uptoBulk d + 1
  | .map entries => uptoBulkEntries entries + 1
  | .held _ => 1
def uptoBulkAll {H : Type} : List (DataW H) → Nat
  | [] => 0
  | d :: r => uptoBulk d + uptoBulkAll r
def uptoBulkEntries {H : Type} : List (Lit × DataW H) → Nat
  | [] => 0
  | x :: r => uptoBulkEntry x + uptoBulkEntries r
def uptoBulkEntry {H : Type} : Lit × DataW H → Nat
  | (.string bytes, d) => bytes.length + uptoBulk d + 1
  | (_, d) => uptoBulk d + 1
 end
def uptoSmall : (H : Type) → List (DataW H) → Bool := fun _ ds => decide (uptoBulkAll ds ≤ 1048576)
def OpenSpec.upto (s : _root_.Go.ChangeSpec) : _root_.Go.OpenSpec := { _root_.Go.OpenSpec.ofChange s with cond := some uptoSmall }

/-- 'consistorylaw11.CatalogApplies', WHERE WHAT IT READS IS OF BULK AT MOST 1048576: true; the input reads as it did. -/
def catalogAppliesUptoRow : OpenClaim := { program := "ytelopbcbmckbcaagreatdoor", sum := "7474e9aee06683e8286d91259b8ede7f5b4e80bf4f012356144919bc4030a8a7", func := "consistory/consistorylaw11.CatalogApplies", spec := "catalogApplies", inPlace := ["internal/bytealg.IndexByteString", "internal/reflectlite.ValueOf", "(internal/reflectlite.Value).Type", "(internal/reflectlite.Value).IsNil", "internal/reflectlite.TypeOf", "(internal/reflectlite.Value).Elem", "(internal/reflectlite.Value).Set"], unfollowed := true, recurses := true, named := ["errors.errorType"], apart := false, laid := [("errors.errorType", laid_errors_errorType)], narrowed := true }
def CatalogAppliesUptoSaid : Prop := catalogAppliesUptoRow.holds Tryz.pinned (OpenSpec.upto catalogAppliesSpec)

/-- 'consistorylaw11.CatalogMany', WHERE WHAT IT READS IS OF BULK AT MOST 1048576: true; the input reads as it did. -/
def catalogManyUptoRow : OpenClaim := { program := "ytelopbcbmckbcaagreatdoor", sum := "7474e9aee06683e8286d91259b8ede7f5b4e80bf4f012356144919bc4030a8a7", func := "consistory/consistorylaw11.CatalogMany", spec := "catalogMany", inPlace := ["internal/bytealg.IndexByteString", "internal/reflectlite.ValueOf", "(internal/reflectlite.Value).Type", "(internal/reflectlite.Value).IsNil", "internal/reflectlite.TypeOf", "(internal/reflectlite.Value).Elem", "(internal/reflectlite.Value).Set"], unfollowed := true, recurses := true, named := ["errors.errorType"], apart := false, laid := [("errors.errorType", laid_errors_errorType)], narrowed := true }
def CatalogManyUptoSaid : Prop := catalogManyUptoRow.holds Tryz.pinned (OpenSpec.upto catalogManySpec)

/-- 'consistorylaw11.CatalogNames', WHERE WHAT IT READS IS OF BULK AT MOST 1048576: true; the input reads as it did. -/
def catalogNamesUptoRow : OpenClaim := { program := "ytelopbcbmckbcaagreatdoor", sum := "7474e9aee06683e8286d91259b8ede7f5b4e80bf4f012356144919bc4030a8a7", func := "consistory/consistorylaw11.CatalogNames", spec := "catalogNames", inPlace := ["internal/bytealg.IndexByteString", "internal/reflectlite.ValueOf", "(internal/reflectlite.Value).Type", "(internal/reflectlite.Value).IsNil", "internal/reflectlite.TypeOf", "(internal/reflectlite.Value).Elem", "(internal/reflectlite.Value).Set"], unfollowed := true, recurses := true, named := ["errors.errorType"], apart := false, laid := [("errors.errorType", laid_errors_errorType)], narrowed := true }
def CatalogNamesUptoSaid : Prop := catalogNamesUptoRow.holds Tryz.pinned (OpenSpec.upto catalogNamesSpec)

/-- 'consistorylaw11.CatalogIs', WHERE WHAT IT READS IS OF BULK AT MOST 1048576: true; the input reads as it did. -/
def catalogIsUptoRow : OpenClaim := { program := "ytelopbcbmckbcaagreatdoor", sum := "7474e9aee06683e8286d91259b8ede7f5b4e80bf4f012356144919bc4030a8a7", func := "consistory/consistorylaw11.CatalogIs", spec := "catalogIs", inPlace := ["internal/bytealg.IndexByteString", "internal/reflectlite.ValueOf", "(internal/reflectlite.Value).Type", "(internal/reflectlite.Value).IsNil", "internal/reflectlite.TypeOf", "(internal/reflectlite.Value).Elem", "(internal/reflectlite.Value).Set"], unfollowed := true, recurses := true, named := ["errors.errorType"], loops := true, apart := false, laid := [("errors.errorType", laid_errors_errorType)], narrowed := true }
def CatalogIsUptoSaid : Prop := catalogIsUptoRow.holds Tryz.pinned (OpenSpec.upto catalogIsSpec)

end Rows
end Go.Proofs.YtelopbcbmckbcaaGreatDoor
