/- consistory/consistorylaw13.ResolveGroups yields true: all cases. -/
import Derived.Test.YtldhpefbemakhaaGreatDoorQGroups1
import Derived.Test.YtldhpefbemakhaaGreatDoorQGroups2
import Derived.Test.YtldhpefbemakhaaGreatDoorQGroups3
namespace Go.Proofs.YtldhpefbemakhaaGreatDoor
open Go.RowKit

namespace Ev
noncomputable section
theorem groups_all : ∀ i, i < 32 → groupsF i = true := by
  intro i hi
  have one : ∀ a l : Nat, (List.range' a l).all groupsF = true → a ≤ i → i < a + l → groupsF i = true := fun a l h h1 h2 => List.all_eq_true.1 h i (List.mem_range'_1.2 ⟨h1, h2⟩)
  rcases Nat.lt_or_ge i 1 with h | h
  · exact one 0 1 groups_run_0 (by omega) (by omega)
  rcases Nat.lt_or_ge i 2 with h | h
  · exact one 1 1 groups_run_1 (by omega) (by omega)
  rcases Nat.lt_or_ge i 3 with h | h
  · exact one 2 1 groups_run_2 (by omega) (by omega)
  rcases Nat.lt_or_ge i 4 with h | h
  · exact one 3 1 groups_run_3 (by omega) (by omega)
  rcases Nat.lt_or_ge i 5 with h | h
  · exact one 4 1 groups_run_4 (by omega) (by omega)
  rcases Nat.lt_or_ge i 6 with h | h
  · exact one 5 1 groups_run_5 (by omega) (by omega)
  rcases Nat.lt_or_ge i 7 with h | h
  · exact one 6 1 groups_run_6 (by omega) (by omega)
  rcases Nat.lt_or_ge i 8 with h | h
  · exact one 7 1 groups_run_7 (by omega) (by omega)
  rcases Nat.lt_or_ge i 9 with h | h
  · exact one 8 1 groups_run_8 (by omega) (by omega)
  rcases Nat.lt_or_ge i 10 with h | h
  · exact one 9 1 groups_run_9 (by omega) (by omega)
  rcases Nat.lt_or_ge i 11 with h | h
  · exact one 10 1 groups_run_10 (by omega) (by omega)
  rcases Nat.lt_or_ge i 12 with h | h
  · exact one 11 1 groups_run_11 (by omega) (by omega)
  rcases Nat.lt_or_ge i 13 with h | h
  · exact one 12 1 groups_run_12 (by omega) (by omega)
  rcases Nat.lt_or_ge i 14 with h | h
  · exact one 13 1 groups_run_13 (by omega) (by omega)
  rcases Nat.lt_or_ge i 15 with h | h
  · exact one 14 1 groups_run_14 (by omega) (by omega)
  rcases Nat.lt_or_ge i 16 with h | h
  · exact one 15 1 groups_run_15 (by omega) (by omega)
  rcases Nat.lt_or_ge i 17 with h | h
  · exact one 16 1 groups_run_16 (by omega) (by omega)
  rcases Nat.lt_or_ge i 18 with h | h
  · exact one 17 1 groups_run_17 (by omega) (by omega)
  rcases Nat.lt_or_ge i 19 with h | h
  · exact one 18 1 groups_run_18 (by omega) (by omega)
  rcases Nat.lt_or_ge i 20 with h | h
  · exact one 19 1 groups_run_19 (by omega) (by omega)
  rcases Nat.lt_or_ge i 21 with h | h
  · exact one 20 1 groups_run_20 (by omega) (by omega)
  rcases Nat.lt_or_ge i 22 with h | h
  · exact one 21 1 groups_run_21 (by omega) (by omega)
  rcases Nat.lt_or_ge i 23 with h | h
  · exact one 22 1 groups_run_22 (by omega) (by omega)
  rcases Nat.lt_or_ge i 24 with h | h
  · exact one 23 1 groups_run_23 (by omega) (by omega)
  rcases Nat.lt_or_ge i 25 with h | h
  · exact one 24 1 groups_run_24 (by omega) (by omega)
  rcases Nat.lt_or_ge i 26 with h | h
  · exact one 25 1 groups_run_25 (by omega) (by omega)
  rcases Nat.lt_or_ge i 27 with h | h
  · exact one 26 1 groups_run_26 (by omega) (by omega)
  rcases Nat.lt_or_ge i 28 with h | h
  · exact one 27 1 groups_run_27 (by omega) (by omega)
  rcases Nat.lt_or_ge i 29 with h | h
  · exact one 28 1 groups_run_28 (by omega) (by omega)
  rcases Nat.lt_or_ge i 30 with h | h
  · exact one 29 1 groups_run_29 (by omega) (by omega)
  rcases Nat.lt_or_ge i 31 with h | h
  · exact one 30 1 groups_run_30 (by omega) (by omega)
  rcases Nat.lt_or_ge i 32 with h | h
  · exact one 31 1 groups_run_31 (by omega) (by omega)
  exact absurd hi (by omega)
end
end Ev
end Go.Proofs.YtldhpefbemakhaaGreatDoor
