/- What every row of this seat needs: what the listed variable gives, a world for the witness, values of the project opened and shut. -/
import Derived.Test.YtddedijencleeaaGreatDoorCards
import Derived.Test.YtddedijencleeaaGreatDoorTie
import Derived.Test.YtddedijencleeaaGreatDoorMErrAs
import Derived.Test.YtddedijencleeaaGreatDoorMBits
import Derived.WalkKit
import Derived.ProofKit
import Derived.OpenShut
import Derived.Deep.DeepHandedRow
import Derived.LaidHandle
import Derived.LaidLaws
import Derived.Lib.LaidTab
import Derived.Lib.SmallJoins
import Derived.SevenTiedAt
namespace Go.Proofs.YtddedijencleeaaGreatDoor
open Go.ChangeShapes Go.WideShapes Go.ChangeAt Go.RowKit Go.Joins

namespace RK
theorem own : ownKnob Tryz.prog.godebug = none := by kernel_rfl
theorem et : Tryz.prog.globalNamed "errors.errorType" = some 0 := by kernel_rfl
theorem rt : (Tryz.prog.cutTypes.find? (·.1 == "internal/reflectlite.rtype")).map (·.2) = some 218 := by kernel_rfl
theorem oneRow : ((List.range 298).filter fun t => Tryz.prog.rowNamed t [101, 114, 114, 111, 114]) = [44] := by kernel_rfl
theorem size : Tryz.prog.types.size = 298 := by kernel_rfl
end RK

/-- WHAT THE CONDITION GIVES A WALK: the variable's one cell. -/
theorem ok_of_laid {W : World} (h : laidMetH Tryz.prog [("errors.errorType", Rows.laid_errors_errorType)] W) : OkW W := by
  have h' : laidMet Tryz.prog [] W ∧ handlesMet Tryz.prog [("errors.errorType", Rows.laid_errors_errorType)] W := h
  obtain ⟨name, u, ty, e1, e2, e3, e4, e5⟩ := h'.2 _ (List.mem_singleton.2 rfl)
  have en : name = [101, 114, 114, 111, 114] := (Option.some.inj e1).symm
  subst en
  obtain rfl := Option.some.inj (RK.rt.symm.trans e2)
  have hm : ty ∈ (List.range 298).filter fun t => Tryz.prog.rowNamed t [101, 114, 114, 111, 114] := List.mem_filter.2 ⟨List.mem_range.2 (by rw [← RK.size]; exact e3), e4⟩
  rw [RK.oneRow] at hm
  obtain rfl := List.mem_singleton.1 hm
  have hh : typeHandle Tryz.prog 44 = .pointer (some ⟨7, 44, none⟩) := by kernel_rfl
  rw [hh] at e5
  unfold OkW
  simpa using World.var?_cell RK.et e5 0

/-- A world that meets the condition: the settled one, the variable's cell laid. -/
noncomputable def laidWorld (os : Os) : World :=
  { World.holding Tryz.prog os ⟨#[], #[], []⟩ with heap := (World.holding Tryz.prog os ⟨#[], #[], []⟩).heap.modify 0 fun
      | .cells _ t frozen => .cells #[.iface 218 (.agg #[.pointer (some ⟨7, 44, none⟩)])] t frozen
      | o => o }
theorem laid_met (os : Os) (args : Array Value) : laidMetH Tryz.prog [("errors.errorType", Rows.laid_errors_errorType)] ((laidWorld os).forCall (fun _ _ => 0) ⟨#[], args, []⟩).memory :=
  laidMetH_of_parts (laidMet_nil _ _) (by kernel_rfl)

theorem cellsV : Tryz.prog.cellsOf 31 = 3 := by kernel_rfl
/-- A value as data. -/
def V.datum {H : Type} (v : V) : DataW H := .agg [.lit (.int .i64 v.k), .lit (.int .i64 v.n), .lit (.string v.t.data.toList)]
def V.wf (v : V) : Prop := (Lit.int .i64 v.k).wf = true ∧ (Lit.int .i64 v.n).wf = true ∧ v.t.size ≤ maxLen
theorem V.wf.size {v : V} (h : v.wf) : v.t.size ≤ 9223372036854775807 := by have := h.2.2; unfold maxLen at this; exact this
theorem in64_of_wf {n : Int} (h : (Lit.int .i64 n).wf = true) : KM n := by
  have := bounds_i64 h
  unfold KM; omega
section
variable {H : Type} {enc : TypeId × Value → H} {w : World} {base : Nat} {spare : Nat → Bool} {held : Bool}
set_option maxRecDepth 100000 in
theorem open_V {r : Reach} {b0 : Nat} {v : Value} {d : DataW H} {p : List MemPlace} (hv : Value.okWide Tryz.prog w r b0 31 v) (h : DataW.Trod enc Tryz.prog w base spare held 31 v d p) :
    ∃ x : V, v = x.agg ∧ d = x.datum ∧ p = [] ∧ x.wf := by
  obtain ⟨v0, v1, v2, y0, y1, y2, n, rfl, rfl, rfl, h0, h1, h2⟩ := open_agg3 Tryz.underlying31 (by kernel_rfl) cellsV hv h
  obtain ⟨a, e0, rfl, wa⟩ := DataW.trod_int Tryz.underlying3 h0
  obtain ⟨b, e1, rfl, wb⟩ := DataW.trod_int Tryz.underlying2 h1
  obtain ⟨s, e2, rfl, ws⟩ := DataW.trod_string Tryz.underlying9 h2
  simp at e0 e1 e2
  subst e0 e1 e2
  exact ⟨⟨a, b, s⟩, rfl, rfl, rfl, wa, wb, ws⟩
set_option maxRecDepth 100000 in
theorem shut_V {x : V} (hx : x.wf) : DataW.Trod enc Tryz.prog w base spare held 31 x.agg x.datum [] := by
  obtain ⟨wa, wb, ws⟩ := hx
  exact shut_agg3 (y0 := (.lit (.int .i64 x.k), [])) (y1 := (.lit (.int .i64 x.n), [])) (y2 := (.lit (.string x.t.data.toList), [])) Tryz.underlying31 (by kernel_rfl) cellsV
    ⟨1, by simp [DataW.trod, Tryz.underlying3, wa]⟩ ⟨1, by simp [DataW.trod, Tryz.underlying2, wb]⟩ ⟨1, by simp [DataW.trod, Tryz.underlying9, ws]⟩
end
end Go.Proofs.YtddedijencleeaaGreatDoor
