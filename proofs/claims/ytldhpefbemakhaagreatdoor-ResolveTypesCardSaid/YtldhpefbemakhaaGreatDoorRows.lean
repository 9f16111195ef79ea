/-
  NARROWER THAN 'FOR EVERY INPUT', by the rows' own cells (each row's printed sentence says how): ResolveNames: laid · ResolveStars: laid · ResolveGroups: laid · ResolveInserts: laid · ResolveTypes: laid.
  DERIVED. THE GIVEN ROWS OF THIS SEAT. 5 by the template 'for every input the law returns true; each argument reads behind the call as it read before'; 0 by the template 'total and deterministic' (their statements: YtldhpefbemakhaaGreatDoorTotals.lean).
  GIVEN WITH THE SEED: the statements are not yours to turn. If you find one false, say at which input.
  Laid BY PROGRAM, IN A SANDBOX (cutbox-rows.mjs): the forced cells as the released guide's own fill.sh prints them over the translation 99b6f1137e8f33ac… (all of the seat's roots in one cut). By AI agents, Wed Nov 11 2026. No macro, syntax, notation, axiom, sorry.
-/
import Derived.Test.YtldhpefbemakhaaGreatDoorChecked
import GoSem.Claim
import GoSem.ClaimJoined
import GoSem.ClaimMapViews
import Derived.JoinedTies
import Derived.KernelRfl
namespace Go.Proofs.YtldhpefbemakhaaGreatDoor
/- THE CELL 'sum', in the pinned program and in every row, IS THE sha256 OF THE DUMP (.gsa) THAT YtldhpefbemakhaaGreatDoorProg.lean LOADS. Nothing in Lean hashes anything: it is a label: what it is worth is what the hold of that sum in a sandbox is worth. -/
noncomputable def Tryz.pinned : Pinned := { name := "ytldhpefbemakhaagreatdoor", sum := "99b6f1137e8f33acf3658736adb7f26ed60f62c88d713d0bcdf65c47e12f9f66", checked := Tryz.checked }
namespace Rows
def none {H : Type} : Left H := { results := [], args := [] }

/- WHAT THE LISTED PACKAGE-LEVEL VARIABLES READ AS WHEN THE CALL BEGINS. Each datum BY PROGRAM (the guide's laid-datum.mjs) off the statement by which the dump's own 'gosem.cut.vars' lays the variable. In a bare row this is a premise. The card (YtldhpefbemakhaaGreatDoorCards.lean) ties it to the program's text. -/
def laid_errors_errorType {H : Type} : DataW H := .iface "internal/reflectlite.rtype" (.agg [.ptr (.lit (.string [101, 114, 114, 111, 114]))])

/-- 'consistorylaw13.ResolveNames': WHATEVER THE INPUT: true; the input reads as it did. -/
def resolveNamesSpec : ChangeSpec := { name := "resolveNames", fn := fun _ => fun
  | [d1, d2, d3, d4] => { results := [.lit (.bool true)], args := [d1, d2, d3, d4] }
  | _ => none }
def resolveNamesRow : OpenClaim := { program := "ytldhpefbemakhaagreatdoor", sum := "99b6f1137e8f33acf3658736adb7f26ed60f62c88d713d0bcdf65c47e12f9f66", func := "consistory/consistorylaw13.ResolveNames", spec := "resolveNames", inPlace := ["math/bits.Add64", "internal/bytealg.IndexByteString", "internal/reflectlite.ValueOf", "(internal/reflectlite.Value).Type", "(internal/reflectlite.Value).IsNil", "internal/reflectlite.TypeOf", "(internal/reflectlite.Value).Elem", "(internal/reflectlite.Value).Set"], unfollowed := true, recurses := true, named := ["errors.errorType"], apart := false, laid := [("errors.errorType", laid_errors_errorType)] }
def ResolveNamesSaid : Prop := resolveNamesRow.holds Tryz.pinned (OpenSpec.ofChange resolveNamesSpec)

/-- ITS FALSE NEIGHBOUR: 'it returns false'. Refute it at one input. -/
def resolveNamesWrong : ChangeSpec := { name := "resolveNames", fn := fun _ => fun
  | [d1, d2, d3, d4] => { results := [.lit (.bool false)], args := [d1, d2, d3, d4] }
  | _ => none }
def ResolveNamesWrongFalsely : Prop := resolveNamesRow.holds Tryz.pinned (OpenSpec.ofChange resolveNamesWrong)

/-- 'consistorylaw13.ResolveStars': WHATEVER THE INPUT: true; the input reads as it did. -/
def resolveStarsSpec : ChangeSpec := { name := "resolveStars", fn := fun _ => fun
  | [d1, d2] => { results := [.lit (.bool true)], args := [d1, d2] }
  | _ => none }
def resolveStarsRow : OpenClaim := { program := "ytldhpefbemakhaagreatdoor", sum := "99b6f1137e8f33acf3658736adb7f26ed60f62c88d713d0bcdf65c47e12f9f66", func := "consistory/consistorylaw13.ResolveStars", spec := "resolveStars", inPlace := ["math/bits.Add64", "internal/bytealg.IndexByteString", "internal/reflectlite.ValueOf", "(internal/reflectlite.Value).Type", "(internal/reflectlite.Value).IsNil", "internal/reflectlite.TypeOf", "(internal/reflectlite.Value).Elem", "(internal/reflectlite.Value).Set"], unfollowed := true, recurses := true, named := ["errors.errorType"], apart := false, laid := [("errors.errorType", laid_errors_errorType)] }
def ResolveStarsSaid : Prop := resolveStarsRow.holds Tryz.pinned (OpenSpec.ofChange resolveStarsSpec)

/-- ITS FALSE NEIGHBOUR: 'it returns false'. Refute it at one input. -/
def resolveStarsWrong : ChangeSpec := { name := "resolveStars", fn := fun _ => fun
  | [d1, d2] => { results := [.lit (.bool false)], args := [d1, d2] }
  | _ => none }
def ResolveStarsWrongFalsely : Prop := resolveStarsRow.holds Tryz.pinned (OpenSpec.ofChange resolveStarsWrong)

/-- 'consistorylaw13.ResolveGroups': WHATEVER THE INPUT: true; the input reads as it did. -/
def resolveGroupsSpec : ChangeSpec := { name := "resolveGroups", fn := fun _ => fun
  | [d1, d2] => { results := [.lit (.bool true)], args := [d1, d2] }
  | _ => none }
def resolveGroupsRow : OpenClaim := { program := "ytldhpefbemakhaagreatdoor", sum := "99b6f1137e8f33acf3658736adb7f26ed60f62c88d713d0bcdf65c47e12f9f66", func := "consistory/consistorylaw13.ResolveGroups", spec := "resolveGroups", inPlace := ["math/bits.Add64", "internal/bytealg.IndexByteString", "internal/reflectlite.ValueOf", "(internal/reflectlite.Value).Type", "(internal/reflectlite.Value).IsNil", "internal/reflectlite.TypeOf", "(internal/reflectlite.Value).Elem", "(internal/reflectlite.Value).Set"], unfollowed := true, recurses := true, named := ["errors.errorType"], apart := false, laid := [("errors.errorType", laid_errors_errorType)] }
def ResolveGroupsSaid : Prop := resolveGroupsRow.holds Tryz.pinned (OpenSpec.ofChange resolveGroupsSpec)

/-- ITS FALSE NEIGHBOUR: 'it returns false'. Refute it at one input. -/
def resolveGroupsWrong : ChangeSpec := { name := "resolveGroups", fn := fun _ => fun
  | [d1, d2] => { results := [.lit (.bool false)], args := [d1, d2] }
  | _ => none }
def ResolveGroupsWrongFalsely : Prop := resolveGroupsRow.holds Tryz.pinned (OpenSpec.ofChange resolveGroupsWrong)

/-- 'consistorylaw13.ResolveInserts': WHATEVER THE INPUT: true; the input reads as it did. -/
def resolveInsertsSpec : ChangeSpec := { name := "resolveInserts", fn := fun _ => fun
  | [d1, d2] => { results := [.lit (.bool true)], args := [d1, d2] }
  | _ => none }
def resolveInsertsRow : OpenClaim := { program := "ytldhpefbemakhaagreatdoor", sum := "99b6f1137e8f33acf3658736adb7f26ed60f62c88d713d0bcdf65c47e12f9f66", func := "consistory/consistorylaw13.ResolveInserts", spec := "resolveInserts", inPlace := ["math/bits.Add64", "internal/bytealg.IndexByteString", "internal/reflectlite.ValueOf", "(internal/reflectlite.Value).Type", "(internal/reflectlite.Value).IsNil", "internal/reflectlite.TypeOf", "(internal/reflectlite.Value).Elem", "(internal/reflectlite.Value).Set"], unfollowed := true, recurses := true, named := ["errors.errorType"], apart := false, laid := [("errors.errorType", laid_errors_errorType)] }
def ResolveInsertsSaid : Prop := resolveInsertsRow.holds Tryz.pinned (OpenSpec.ofChange resolveInsertsSpec)

/-- ITS FALSE NEIGHBOUR: 'it returns false'. Refute it at one input. -/
def resolveInsertsWrong : ChangeSpec := { name := "resolveInserts", fn := fun _ => fun
  | [d1, d2] => { results := [.lit (.bool false)], args := [d1, d2] }
  | _ => none }
def ResolveInsertsWrongFalsely : Prop := resolveInsertsRow.holds Tryz.pinned (OpenSpec.ofChange resolveInsertsWrong)

/-- 'consistorylaw13.ResolveTypes': WHATEVER THE INPUT: true; the input reads as it did. -/
def resolveTypesSpec : ChangeSpec := { name := "resolveTypes", fn := fun _ => fun
  | [d1, d2, d3] => { results := [.lit (.bool true)], args := [d1, d2, d3] }
  | _ => none }
def resolveTypesRow : OpenClaim := { program := "ytldhpefbemakhaagreatdoor", sum := "99b6f1137e8f33acf3658736adb7f26ed60f62c88d713d0bcdf65c47e12f9f66", func := "consistory/consistorylaw13.ResolveTypes", spec := "resolveTypes", inPlace := ["math/bits.Add64", "internal/bytealg.IndexByteString", "internal/reflectlite.ValueOf", "(internal/reflectlite.Value).Type", "(internal/reflectlite.Value).IsNil", "internal/reflectlite.TypeOf", "(internal/reflectlite.Value).Elem", "(internal/reflectlite.Value).Set"], unfollowed := true, recurses := true, named := ["errors.errorType"], apart := false, laid := [("errors.errorType", laid_errors_errorType)] }
def ResolveTypesSaid : Prop := resolveTypesRow.holds Tryz.pinned (OpenSpec.ofChange resolveTypesSpec)

/-- ITS FALSE NEIGHBOUR: 'it returns false'. Refute it at one input. -/
def resolveTypesWrong : ChangeSpec := { name := "resolveTypes", fn := fun _ => fun
  | [d1, d2, d3] => { results := [.lit (.bool false)], args := [d1, d2, d3] }
  | _ => none }
def ResolveTypesWrongFalsely : Prop := resolveTypesRow.holds Tryz.pinned (OpenSpec.ofChange resolveTypesWrong)

/- THE SECOND FORM. 'bulk': how many values and letters a reading holds, each counted each time it is reached (what is shared counts as often as it is met; a slice's spare places count too). A statement '..UptoSaid' is the law's where the arguments, and the package variables that the reading takes, are together of bulk at most 1048576: NARROWER than '..Said'. Prove '..Said' where nothing that the law and all that it calls make is longer than what came in: it says more and counts as full. Else prove '..UptoSaid'. A law counts once. -/
mutual
def uptoBulk {H : Type} : DataW H → Nat
  | .lit (.string bytes) => bytes.length + 1
  | .lit _ => 1
  | .nil => 1
  | .ptr d => uptoBulk d + 1
  | .slice elems spare => uptoBulkAll elems + uptoBulkAll spare + 1
  | .agg parts => uptoBulkAll parts + 1
  | .iface _ d => uptoBulk d + 1
  | .map entries => uptoBulkEntries entries + 1
  | .held _ => 1
def uptoBulkAll {H : Type} : List (DataW H) → Nat
  | [] => 0
  | d :: r => uptoBulk d + uptoBulkAll r
def uptoBulkEntries {H : Type} : List (Lit × DataW H) → Nat
  | [] => 0
  | x :: r => uptoBulkEntry x + uptoBulkEntries r
def uptoBulkEntry {H : Type} : Lit × DataW H → Nat
  | (.string bytes, d) => bytes.length + uptoBulk d + 1
  | (_, d) => uptoBulk d + 1
 end
def uptoSmall : (H : Type) → List (DataW H) → Bool := fun _ ds => decide (uptoBulkAll ds ≤ 1048576)
def OpenSpec.upto (s : _root_.Go.ChangeSpec) : _root_.Go.OpenSpec := { _root_.Go.OpenSpec.ofChange s with cond := some uptoSmall }

/-- 'consistorylaw13.ResolveNames', WHERE WHAT IT READS IS OF BULK AT MOST 1048576: true; the input reads as it did. -/
def resolveNamesUptoRow : OpenClaim := { program := "ytldhpefbemakhaagreatdoor", sum := "99b6f1137e8f33acf3658736adb7f26ed60f62c88d713d0bcdf65c47e12f9f66", func := "consistory/consistorylaw13.ResolveNames", spec := "resolveNames", inPlace := ["math/bits.Add64", "internal/bytealg.IndexByteString", "internal/reflectlite.ValueOf", "(internal/reflectlite.Value).Type", "(internal/reflectlite.Value).IsNil", "internal/reflectlite.TypeOf", "(internal/reflectlite.Value).Elem", "(internal/reflectlite.Value).Set"], unfollowed := true, recurses := true, named := ["errors.errorType"], apart := false, laid := [("errors.errorType", laid_errors_errorType)], narrowed := true }
def ResolveNamesUptoSaid : Prop := resolveNamesUptoRow.holds Tryz.pinned (OpenSpec.upto resolveNamesSpec)

/-- 'consistorylaw13.ResolveStars', WHERE WHAT IT READS IS OF BULK AT MOST 1048576: true; the input reads as it did. -/
def resolveStarsUptoRow : OpenClaim := { program := "ytldhpefbemakhaagreatdoor", sum := "99b6f1137e8f33acf3658736adb7f26ed60f62c88d713d0bcdf65c47e12f9f66", func := "consistory/consistorylaw13.ResolveStars", spec := "resolveStars", inPlace := ["math/bits.Add64", "internal/bytealg.IndexByteString", "internal/reflectlite.ValueOf", "(internal/reflectlite.Value).Type", "(internal/reflectlite.Value).IsNil", "internal/reflectlite.TypeOf", "(internal/reflectlite.Value).Elem", "(internal/reflectlite.Value).Set"], unfollowed := true, recurses := true, named := ["errors.errorType"], apart := false, laid := [("errors.errorType", laid_errors_errorType)], narrowed := true }
def ResolveStarsUptoSaid : Prop := resolveStarsUptoRow.holds Tryz.pinned (OpenSpec.upto resolveStarsSpec)

/-- 'consistorylaw13.ResolveGroups', WHERE WHAT IT READS IS OF BULK AT MOST 1048576: true; the input reads as it did. -/
def resolveGroupsUptoRow : OpenClaim := { program := "ytldhpefbemakhaagreatdoor", sum := "99b6f1137e8f33acf3658736adb7f26ed60f62c88d713d0bcdf65c47e12f9f66", func := "consistory/consistorylaw13.ResolveGroups", spec := "resolveGroups", inPlace := ["math/bits.Add64", "internal/bytealg.IndexByteString", "internal/reflectlite.ValueOf", "(internal/reflectlite.Value).Type", "(internal/reflectlite.Value).IsNil", "internal/reflectlite.TypeOf", "(internal/reflectlite.Value).Elem", "(internal/reflectlite.Value).Set"], unfollowed := true, recurses := true, named := ["errors.errorType"], apart := false, laid := [("errors.errorType", laid_errors_errorType)], narrowed := true }
def ResolveGroupsUptoSaid : Prop := resolveGroupsUptoRow.holds Tryz.pinned (OpenSpec.upto resolveGroupsSpec)

/-- 'consistorylaw13.ResolveInserts', WHERE WHAT IT READS IS OF BULK AT MOST 1048576: true; the input reads as it did. -/
def resolveInsertsUptoRow : OpenClaim := { program := "ytldhpefbemakhaagreatdoor", sum := "99b6f1137e8f33acf3658736adb7f26ed60f62c88d713d0bcdf65c47e12f9f66", func := "consistory/consistorylaw13.ResolveInserts", spec := "resolveInserts", inPlace := ["math/bits.Add64", "internal/bytealg.IndexByteString", "internal/reflectlite.ValueOf", "(internal/reflectlite.Value).Type", "(internal/reflectlite.Value).IsNil", "internal/reflectlite.TypeOf", "(internal/reflectlite.Value).Elem", "(internal/reflectlite.Value).Set"], unfollowed := true, recurses := true, named := ["errors.errorType"], apart := false, laid := [("errors.errorType", laid_errors_errorType)], narrowed := true }
def ResolveInsertsUptoSaid : Prop := resolveInsertsUptoRow.holds Tryz.pinned (OpenSpec.upto resolveInsertsSpec)

/-- 'consistorylaw13.ResolveTypes', WHERE WHAT IT READS IS OF BULK AT MOST 1048576: true; the input reads as it did. -/
def resolveTypesUptoRow : OpenClaim := { program := "ytldhpefbemakhaagreatdoor", sum := "99b6f1137e8f33acf3658736adb7f26ed60f62c88d713d0bcdf65c47e12f9f66", func := "consistory/consistorylaw13.ResolveTypes", spec := "resolveTypes", inPlace := ["math/bits.Add64", "internal/bytealg.IndexByteString", "internal/reflectlite.ValueOf", "(internal/reflectlite.Value).Type", "(internal/reflectlite.Value).IsNil", "internal/reflectlite.TypeOf", "(internal/reflectlite.Value).Elem", "(internal/reflectlite.Value).Set"], unfollowed := true, recurses := true, named := ["errors.errorType"], apart := false, laid := [("errors.errorType", laid_errors_errorType)], narrowed := true }
def ResolveTypesUptoSaid : Prop := resolveTypesUptoRow.holds Tryz.pinned (OpenSpec.upto resolveTypesSpec)

end Rows
end Go.Proofs.YtldhpefbemakhaaGreatDoor
