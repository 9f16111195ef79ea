/- Arguments that are rows of bytes, opened. -/
import Derived.Test.YtpmjpbndpnmdlaaDoorRowVs
import Derived.Test.YtpmjpbndpnmdlaaDoorDecP
import Derived.ChangeSlices
set_option linter.all false
namespace Go.Proofs.YtpmjpbndpnmdlaaDoor
open Go.ChangeShapes Go.WideShapes Go.ChangeAt Go.RowKit Go.Joins Go.Deep

section
variable {H : Type} {enc : TypeId × Value → H} {W : World}
set_option maxRecDepth 100000 in
theorem open_Bs {r : Reach} {b0 : Nat} {v : Value} {d : DataW H} {ps : List MemPlace} (hv : Value.okWide Tryd.prog W r b0 49 v) (h : DataW.Trod enc Tryd.prog W 0 (fun _ => true) true 49 v d ps) :
    ∃ A n c, ∃ xs : List Int, v = .slice A n c ∧ n ≤ c ∧ n ≤ maxLen ∧ Reads W 1 A n (nums xs) ∧ InB xs := by
  obtain ⟨a0, len0, cap0, rfl⟩ := okWide_slice Tryd.underlying49 hv
  obtain ⟨fuel, hf⟩ := h
  have c1 : Tryd.prog.cellsOf 5 = 1 := by kernel_rfl
  rcases open_ints Tryd.underlying49 Tryd.underlying5 c1 hf with ⟨h0, _⟩ | ⟨a, len, cap, zs, hcs, hb, hl, hm, hmm, hx, hi, hw⟩
  · simp [Value.cells] at h0
    obtain ⟨rfl, rfl, rfl⟩ := h0
    exact ⟨none, 0, 0, [], rfl, Nat.le_refl _, by unfold maxLen; omega, Reads.none_, fun u hu => by simp at hu⟩
  · simp [Value.cells] at hcs
    obtain ⟨rfl, rfl, rfl⟩ := hcs
    have hlm : len0 ≤ zs.length := by rw [hmm]; split <;> omega
    refine ⟨some a, len0, cap0, zs.take len0, rfl, hl, by omega, ⟨by simp [nums]; omega, fun hpos => ?_⟩, fun x hxm => ?_⟩
    · obtain ⟨b, o, rfl, hlt⟩ := flat0 (hi 0 (by omega))
      refine ⟨b, o, rfl, hlt, fun j x hx => ?_⟩
      simp only [nums, List.getElem?_map, Option.map_eq_some_iff] at hx
      obtain ⟨y, hy, rfl⟩ := hx
      rw [List.getElem?_take] at hy
      split at hy
      · have h2 := hi j (by omega)
        rw [add_flat] at h2
        rw [h2, List.getD_eq_getElem?_getD, hy]
        rfl
      · cases hy
    · have := hw x (List.mem_of_mem_take hxm)
      simp [Lit.wf] at this
      have e1 : IntKind.u8.min = 0 := by decide
      have e2 : IntKind.u8.max = 255 := by decide
      omega
end
theorem readBs : Tryd.prog.readableRec 49 = true := by kernel_rfl
theorem ltBs : 49 < Tryd.prog.types.size := of_decide_eq_true (by kernel_rfl)
end Go.Proofs.YtpmjpbndpnmdlaaDoor
