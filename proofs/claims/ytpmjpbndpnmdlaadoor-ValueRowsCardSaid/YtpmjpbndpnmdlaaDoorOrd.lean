/- How values compare: an order (plain laws, no memory). -/
import Derived.Test.YtpmjpbndpnmdlaaDoorVal2
import Derived.Test.YtpmjpbndpnmdlaaDoorVal4
import Derived.Test.YtpmjpbndpnmdlaaDoorMem
import Derived.Sort.Walk0
namespace Go.Proofs.YtpmjpbndpnmdlaaDoor
open Go.RowKit

theorem cmpI_anti (x y : Int) : cmpI y x = -cmpI x y := by unfold cmpI; (repeat' split) <;> omega
theorem cmpI_refl (x : Int) : cmpI x x = 0 := by unfold cmpI; simp
theorem cmpI_zero {x y : Int} : cmpI x y = 0 ↔ x = y := by unfold cmpI; (repeat' split) <;> omega
theorem cmpI_neg {x y : Int} : cmpI x y < 0 ↔ x < y := by unfold cmpI; (repeat' split) <;> omega
theorem cmpI_pos {x y : Int} : 0 < cmpI x y ↔ y < x := by unfold cmpI; (repeat' split) <;> omega

theorem less_irrefl (x : List UInt8) : ¬ x < x := List.lt_irrefl x
theorem less_trans {x y z : List UInt8} (h : x < y) (k : y < z) : x < z := List.lt_trans h k
theorem less_total (x y : List UInt8) : x < y ∨ x = y ∨ y < x := by
  rcases List.le_total x y with h | h
  · rcases List.le_iff_lt_or_eq.1 h with h | h
    · exact .inl h
    · exact .inr (.inl h)
  · rcases List.le_iff_lt_or_eq.1 h with h | h
    · exact .inr (.inr h)
    · exact .inr (.inl h.symm)
theorem cmpS_eq (x y : List UInt8) : cmpS x y = if x < y then -1 else if x = y then 0 else 1 := by
  unfold cmpS
  rw [bytesLess_eq]
  by_cases h : x < y
  · simp [h]
  · by_cases h2 : x = y <;> simp [h, h2]
theorem cmpS_refl (x : List UInt8) : cmpS x x = 0 := by rw [cmpS_eq]; simp [less_irrefl]
theorem cmpS_anti (x y : List UInt8) : cmpS y x = -cmpS x y := by
  rw [cmpS_eq, cmpS_eq]
  rcases less_total x y with h | h | h
  · have h1 : ¬ y < x := fun k => less_irrefl _ (less_trans h k)
    have h2 : ¬ y = x := fun k => by subst k; exact less_irrefl _ h
    simp [h, h1, h2]
  · subst h; simp [less_irrefl]
  · have h1 : ¬ x < y := fun k => less_irrefl _ (less_trans h k)
    have h2 : ¬ x = y := fun k => by subst k; exact less_irrefl _ h
    simp [h, h1, h2]
theorem cmpS_zero {x y : List UInt8} : cmpS x y = 0 ↔ x = y := by
  rw [cmpS_eq]
  by_cases h : x < y
  · have : x ≠ y := fun k => by subst k; exact less_irrefl _ h
    simp [h, this]
  · by_cases h2 : x = y <;> simp [h, h2]
theorem cmpS_neg {x y : List UInt8} : cmpS x y < 0 ↔ x < y := by
  rw [cmpS_eq]
  by_cases h : x < y
  · simp [h]
  · by_cases h2 : x = y <;> simp [h, h2, less_irrefl]

/-- The sign of a pair of comparisons, one behind the other. -/
theorem cmp3_anti (k n : Int) (s : List UInt8) (k' n' : Int) (s' : List UInt8) : cmp3 k' n' s' k n s = -cmp3 k n s k' n' s' := by
  unfold cmp3 or3
  rw [cmpI_anti k k', cmpI_anti n n', cmpS_anti s s']
  (repeat' split) <;> omega
theorem cmp3_refl (k n : Int) (s : List UInt8) : cmp3 k n s k n s = 0 := by
  unfold cmp3 or3; rw [cmpI_refl, cmpI_refl, cmpS_refl]; simp
theorem cmp3_zero {k n : Int} {s : List UInt8} {k' n' : Int} {s' : List UInt8} : cmp3 k n s k' n' s' = 0 ↔ k = k' ∧ n = n' ∧ s = s' := by
  unfold cmp3 or3
  have h1 := @cmpI_zero k k'
  have h2 := @cmpI_zero n n'
  have h3 := @cmpS_zero s s'
  by_cases e1 : k = k' <;> by_cases e2 : n = n' <;> simp_all
theorem cmp3_neg {k n : Int} {s : List UInt8} {k' n' : Int} {s' : List UInt8} : cmp3 k n s k' n' s' < 0 ↔ k < k' ∨ (k = k' ∧ (n < n' ∨ (n = n' ∧ s < s'))) := by
  unfold cmp3 or3
  have h1 := @cmpI_zero k k'
  have h2 := @cmpI_zero n n'
  have h3 := @cmpI_neg k k'
  have h4 := @cmpI_neg n n'
  have h5 := @cmpS_neg s s'
  by_cases e1 : k = k'
  · subst e1
    simp only [cmpI_refl, ne_eq, not_true_eq_false, if_false, Int.lt_irrefl, false_or, true_and]
    by_cases e2 : n = n'
    · subst e2
      simp only [cmpI_refl, not_true_eq_false, if_false, Int.lt_irrefl, false_or, true_and]
      exact h5
    · have : cmpI n n' ≠ 0 := fun h => e2 (h2.1 h)
      simp [this, e2, h4]
  · have : cmpI k k' ≠ 0 := fun h => e1 (h1.1 h)
    simp [this, e1, h3]
theorem cmp3_trans {a b c a' b' c' : Int} {s t u : List UInt8} (h1 : cmp3 a b s a' b' t ≤ 0) (h2 : cmp3 a' b' t c c' u ≤ 0) : cmp3 a b s c c' u ≤ 0 := by
  have k1 : cmp3 a b s a' b' t < 0 ∨ cmp3 a b s a' b' t = 0 := by omega
  have k2 : cmp3 a' b' t c c' u < 0 ∨ cmp3 a' b' t c c' u = 0 := by omega
  rcases k1 with k1 | k1
  · rcases k2 with k2 | k2
    · have : cmp3 a b s c c' u < 0 := by
        rw [cmp3_neg] at k1 k2 ⊢
        rcases k1 with h | ⟨rfl, h | ⟨rfl, h⟩⟩ <;> rcases k2 with k | ⟨rfl, k | ⟨rfl, k⟩⟩
        · exact .inl (by omega)
        · exact .inl (by omega)
        · exact .inl (by omega)
        · exact .inl (by omega)
        · exact .inr ⟨rfl, .inl (by omega)⟩
        · exact .inr ⟨rfl, .inl (by omega)⟩
        · exact .inl (by omega)
        · exact .inr ⟨rfl, .inl (by omega)⟩
        · exact .inr ⟨rfl, .inr ⟨rfl, less_trans h k⟩⟩
      omega
    · obtain ⟨rfl, rfl, rfl⟩ := cmp3_zero.1 k2
      omega
  · obtain ⟨rfl, rfl, rfl⟩ := cmp3_zero.1 k1
    exact h2

theorem cmp3_range (k n : Int) (s : List UInt8) (k' n' : Int) (s' : List UInt8) : -1 ≤ cmp3 k n s k' n' s' ∧ cmp3 k n s k' n' s' ≤ 1 := by
  have h1 : ∀ x y, -1 ≤ cmpI x y ∧ cmpI x y ≤ 1 := fun x y => by unfold cmpI; (repeat' split) <;> omega
  have h2 : -1 ≤ cmpS s s' ∧ cmpS s s' ≤ 1 := by unfold cmpS; (repeat' split) <;> omega
  have a := h1 k k'
  have b := h1 n n'
  unfold cmp3 or3
  (repeat' split) <;> omega

def V.is (v : V) : Bool := mayB v.k v.n v.t
def cmpV (a b : V) : Int := compareV a.k a.n a.t b.k b.n b.t
theorem cmpV_anti (a b : V) : cmpV b a = -cmpV a b := cmp3_anti _ _ _ _ _ _
theorem cmpV_range (a b : V) : -1 ≤ cmpV a b ∧ cmpV a b ≤ 1 := cmp3_range _ _ _ _ _ _
theorem cmpV_refl (a : V) : cmpV a a = 0 := cmp3_refl _ _ _
theorem cmpV_trans {a b c : V} (h : cmpV a b ≤ 0) (k : cmpV b c ≤ 0) : cmpV a c ≤ 0 := cmp3_trans h k
end Go.Proofs.YtpmjpbndpnmdlaaDoor
