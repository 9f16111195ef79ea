/- consistorylaw11.known yields true: reckoned. -/
import Derived.Test.YtelopbcbmckbcaaGreatDoorWords11
set_option linter.all false
namespace Go.Proofs.YtelopbcbmckbcaaGreatDoor
open Go.RowKit

namespace Ev
noncomputable section
set_option maxRecDepth 1000000 in
theorem known_run : okTrue cxW.call 7 [] = true := by kernel_rfl
theorem known_ok (w : World) (hw : OkW w) : Calls Tryz.prog 7 #[] w fun e w' => e = .returned (.bool true) ∧ Below w.heap.size w w' :=
  okTrue_ok cxW_ok known_run (c := bodyOf Tryz.f7) Tryz.func7 rfl (by kernel_rfl) (xs := []) (fun _ => 0) (fun _ _ => rfl) w hw
/-- What is told at once: classes of errors, words, known. -/
def spec1 (g : FuncId) (args : List AV) (m : Mem) : Option (AV × Mem) := match specW g args m with
  | some r => some r
  | none => bif Nat.beq g 7 then (match args with | [] => some (.bool true, m) | _ => none) else none
theorem spec1_ok : CallSound Tryz.prog spec1 := by
  intro g args m r m' h
  unfold spec1 at h
  split at h
  · rename_i q hq; cases h; exact specW_ok g args m r m' hq
  · cases hg : Nat.beq g 7 with
    | false => rw [hg, cond_false] at h; cases h
    | true =>
      rw [hg, cond_true] at h
      rw [Nat.beq_eq] at hg
      subst hg
      split at h
      case h_2 => cases h
      cases h
      refine ⟨[], Lg.refl m, fun ρ w xs hr hxs => .inl ⟨enters (c := bodyOf Tryz.f7) Tryz.func7 rfl (by kernel_rfl) _ _, ?_⟩⟩
      simp only [concL, Option.some.injEq] at hxs
      subst hxs
      refine (known_ok w hr.ok).mono ?_
      rintro e w' ⟨rfl, hb⟩
      exact ⟨_, rfl, ρ, Stp.below hr hb, rfl⟩
abbrev cx1 : Ctx := cxS Tryz.prog tab spec1 3000
theorem cx1_ok : CallSound Tryz.prog cx1.call := (cxS_sound mixed tab_ok spec1_ok 3000).1
end
end Ev
end Go.Proofs.YtelopbcbmckbcaaGreatDoor
