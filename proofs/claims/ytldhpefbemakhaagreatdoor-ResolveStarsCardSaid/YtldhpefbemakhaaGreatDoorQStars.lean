/- consistory/consistorylaw13.ResolveStars yields true: all cases. -/
import Derived.Test.YtldhpefbemakhaaGreatDoorQStars1
import Derived.Test.YtldhpefbemakhaaGreatDoorQStars2
import Derived.Test.YtldhpefbemakhaaGreatDoorQStars3
namespace Go.Proofs.YtldhpefbemakhaaGreatDoor
open Go.RowKit

namespace Ev
noncomputable section
theorem stars_all : ∀ i, i < 12 → starsF i = true := by
  intro i hi
  have one : ∀ a l : Nat, (List.range' a l).all starsF = true → a ≤ i → i < a + l → starsF i = true := fun a l h h1 h2 => List.all_eq_true.1 h i (List.mem_range'_1.2 ⟨h1, h2⟩)
  rcases Nat.lt_or_ge i 1 with h | h
  · exact one 0 1 stars_run_0 (by omega) (by omega)
  rcases Nat.lt_or_ge i 2 with h | h
  · exact one 1 1 stars_run_1 (by omega) (by omega)
  rcases Nat.lt_or_ge i 3 with h | h
  · exact one 2 1 stars_run_2 (by omega) (by omega)
  rcases Nat.lt_or_ge i 4 with h | h
  · exact one 3 1 stars_run_3 (by omega) (by omega)
  rcases Nat.lt_or_ge i 5 with h | h
  · exact one 4 1 stars_run_4 (by omega) (by omega)
  rcases Nat.lt_or_ge i 6 with h | h
  · exact one 5 1 stars_run_5 (by omega) (by omega)
  rcases Nat.lt_or_ge i 7 with h | h
  · exact one 6 1 stars_run_6 (by omega) (by omega)
  rcases Nat.lt_or_ge i 8 with h | h
  · exact one 7 1 stars_run_7 (by omega) (by omega)
  rcases Nat.lt_or_ge i 9 with h | h
  · exact one 8 1 stars_run_8 (by omega) (by omega)
  rcases Nat.lt_or_ge i 10 with h | h
  · exact one 9 1 stars_run_9 (by omega) (by omega)
  rcases Nat.lt_or_ge i 11 with h | h
  · exact one 10 1 stars_run_10 (by omega) (by omega)
  rcases Nat.lt_or_ge i 12 with h | h
  · exact one 11 1 stars_run_11 (by omega) (by omega)
  exact absurd hi (by omega)
end
end Ev
end Go.Proofs.YtldhpefbemakhaaGreatDoor
