/- consistorylaw6.ValueTests: the walk. -/
import Derived.Test.YtpmjpbndpnmdlaaDoorOrd
import Derived.Test.YtpmjpbndpnmdlaaDoorKn6
import Derived.Test.YtpmjpbndpnmdlaaDoorErrCls
namespace Go.Proofs.YtpmjpbndpnmdlaaDoor
open Go.RowKit

/-- The opposite test, the test turned round. -/
def opNot (op : Int) : Int := if op = 5 then 6 else if op = 6 then 5 else if op = 7 then 10 else if op = 8 then 9 else if op = 9 then 8 else 7
def opBack (op : Int) : Int := if op = 5 then 5 else if op = 6 then 6 else if op = 7 then 9 else if op = 8 then 10 else if op = 9 then 7 else 8

theorem testR_alt (op k n : Int) (s : ByteArray) (k' n' : Int) (s' : ByteArray) (h1 : 5 ≤ op) (h2 : op ≤ 10) :
    (testR op k n s k' n' s' = (0, 20) ∧ testR (opNot op) k n s k' n' s' = (0, 20) ∧ testR (opBack op) k' n' s' k n s = (0, 20)) ∨
    (testR op k n s k' n' s' = (2, 0) ∧ testR (opNot op) k n s k' n' s' = (2, 0) ∧ testR (opBack op) k' n' s' k n s = (2, 0)) ∨
    (testR op k n s k' n' s' = (0, 4) ∧ testR (opNot op) k n s k' n' s' = (0, 4) ∧ testR (opBack op) k' n' s' k n s = (0, 4)) ∨
    ∃ b : Bool, testR op k n s k' n' s' = (tr b, 0) ∧ testR (opNot op) k n s k' n' s' = (tr (!b), 0) ∧ testR (opBack op) k' n' s' k n s = (tr b, 0) := by
  have hn : 5 ≤ opNot op ∧ opNot op ≤ 10 := by unfold opNot; (repeat' split) <;> omega
  have hb : 5 ≤ opBack op ∧ opBack op ≤ 10 := by unfold opBack; (repeat' split) <;> omega
  unfold testR
  by_cases hm : mayB k n s = false ∨ mayB k' n' s' = false
  · refine .inl ⟨?_, ?_, ?_⟩
    · rw [if_pos (.inr (.inr hm))]
    · rw [if_pos (.inr (.inr hm))]
    · rw [if_pos (.inr (.inr hm.symm))]
  · have c1 : ¬ (op < 5 ∨ 10 < op ∨ mayB k n s = false ∨ mayB k' n' s' = false) := by rintro (h | h | h) <;> first | omega | exact hm h
    have c2 : ¬ (opNot op < 5 ∨ 10 < opNot op ∨ mayB k n s = false ∨ mayB k' n' s' = false) := by rintro (h | h | h) <;> first | omega | exact hm h
    have c3 : ¬ (opBack op < 5 ∨ 10 < opBack op ∨ mayB k' n' s' = false ∨ mayB k n s = false) := by rintro (h | h | h) <;> first | omega | exact hm h.symm
    rw [if_neg c1, if_neg c2, if_neg c3]
    by_cases hz : k = 0 ∨ k' = 0
    · refine .inr (.inl ⟨?_, ?_, ?_⟩)
      · rw [if_pos hz]
      · rw [if_pos hz]
      · rw [if_pos hz.symm]
    · have hz' : ¬ (k' = 0 ∨ k = 0) := fun h => hz h.symm
      simp only [if_neg hz, if_neg hz']
      by_cases he : k = k'
      · have he1 : ¬ (k ≠ k') := fun h => h he
        have he2 : ¬ (k' ≠ k) := fun h => h he.symm
        simp only [if_neg he1, if_neg he2]
        refine .inr (.inr (.inr ⟨testB op (compareV k n s k' n' s'), rfl, ?_, ?_⟩))
        · have : testB (opNot op) (compareV k n s k' n' s') = !testB op (compareV k n s k' n' s') := by
            have ho : op = 5 ∨ op = 6 ∨ op = 7 ∨ op = 8 ∨ op = 9 ∨ op = 10 := by omega
            rcases ho with rfl | rfl | rfl | rfl | rfl | rfl <;> simp [testB, opNot]
          rw [this]
        · have ha : compareV k' n' s' k n s = -compareV k n s k' n' s' := cmp3_anti _ _ _ _ _ _
          have : testB (opBack op) (compareV k' n' s' k n s) = testB op (compareV k n s k' n' s') := by
            rw [ha]
            generalize compareV k n s k' n' s' = x
            have ho : op = 5 ∨ op = 6 ∨ op = 7 ∨ op = 8 ∨ op = 9 ∨ op = 10 := by omega
            rcases ho with rfl | rfl | rfl | rfl | rfl | rfl <;> simp [testB, opBack]
            all_goals first | omega | (congr 1; simp; omega) | (rw [Bool.eq_iff_iff]; simp; omega)
          rw [this]
      · have he2 : k' ≠ k := fun h => he h.symm
        refine .inr (.inr (.inl ⟨?_, ?_, ?_⟩))
        · rw [if_pos he]
        · rw [if_pos he]
        · rw [if_pos he2]
end Go.Proofs.YtpmjpbndpnmdlaaDoor
