/- consistory/consistorylaw13.ResolveNames yields true: all cases. -/
import Derived.Test.YtldhpefbemakhaaGreatDoorQNames1
import Derived.Test.YtldhpefbemakhaaGreatDoorQNames2
import Derived.Test.YtldhpefbemakhaaGreatDoorQNames3
namespace Go.Proofs.YtldhpefbemakhaaGreatDoor
open Go.RowKit

namespace Ev
noncomputable section
theorem names_all : ∀ i, i < 80 → namesF i = true := by
  intro i hi
  have one : ∀ a l : Nat, (List.range' a l).all namesF = true → a ≤ i → i < a + l → namesF i = true := fun a l h h1 h2 => List.all_eq_true.1 h i (List.mem_range'_1.2 ⟨h1, h2⟩)
  rcases Nat.lt_or_ge i 1 with h | h
  · exact one 0 1 names_run_0 (by omega) (by omega)
  rcases Nat.lt_or_ge i 2 with h | h
  · exact one 1 1 names_run_1 (by omega) (by omega)
  rcases Nat.lt_or_ge i 3 with h | h
  · exact one 2 1 names_run_2 (by omega) (by omega)
  rcases Nat.lt_or_ge i 4 with h | h
  · exact one 3 1 names_run_3 (by omega) (by omega)
  rcases Nat.lt_or_ge i 5 with h | h
  · exact one 4 1 names_run_4 (by omega) (by omega)
  rcases Nat.lt_or_ge i 6 with h | h
  · exact one 5 1 names_run_5 (by omega) (by omega)
  rcases Nat.lt_or_ge i 7 with h | h
  · exact one 6 1 names_run_6 (by omega) (by omega)
  rcases Nat.lt_or_ge i 8 with h | h
  · exact one 7 1 names_run_7 (by omega) (by omega)
  rcases Nat.lt_or_ge i 9 with h | h
  · exact one 8 1 names_run_8 (by omega) (by omega)
  rcases Nat.lt_or_ge i 10 with h | h
  · exact one 9 1 names_run_9 (by omega) (by omega)
  rcases Nat.lt_or_ge i 11 with h | h
  · exact one 10 1 names_run_10 (by omega) (by omega)
  rcases Nat.lt_or_ge i 12 with h | h
  · exact one 11 1 names_run_11 (by omega) (by omega)
  rcases Nat.lt_or_ge i 13 with h | h
  · exact one 12 1 names_run_12 (by omega) (by omega)
  rcases Nat.lt_or_ge i 14 with h | h
  · exact one 13 1 names_run_13 (by omega) (by omega)
  rcases Nat.lt_or_ge i 15 with h | h
  · exact one 14 1 names_run_14 (by omega) (by omega)
  rcases Nat.lt_or_ge i 16 with h | h
  · exact one 15 1 names_run_15 (by omega) (by omega)
  rcases Nat.lt_or_ge i 17 with h | h
  · exact one 16 1 names_run_16 (by omega) (by omega)
  rcases Nat.lt_or_ge i 18 with h | h
  · exact one 17 1 names_run_17 (by omega) (by omega)
  rcases Nat.lt_or_ge i 19 with h | h
  · exact one 18 1 names_run_18 (by omega) (by omega)
  rcases Nat.lt_or_ge i 20 with h | h
  · exact one 19 1 names_run_19 (by omega) (by omega)
  rcases Nat.lt_or_ge i 21 with h | h
  · exact one 20 1 names_run_20 (by omega) (by omega)
  rcases Nat.lt_or_ge i 22 with h | h
  · exact one 21 1 names_run_21 (by omega) (by omega)
  rcases Nat.lt_or_ge i 23 with h | h
  · exact one 22 1 names_run_22 (by omega) (by omega)
  rcases Nat.lt_or_ge i 24 with h | h
  · exact one 23 1 names_run_23 (by omega) (by omega)
  rcases Nat.lt_or_ge i 25 with h | h
  · exact one 24 1 names_run_24 (by omega) (by omega)
  rcases Nat.lt_or_ge i 26 with h | h
  · exact one 25 1 names_run_25 (by omega) (by omega)
  rcases Nat.lt_or_ge i 27 with h | h
  · exact one 26 1 names_run_26 (by omega) (by omega)
  rcases Nat.lt_or_ge i 28 with h | h
  · exact one 27 1 names_run_27 (by omega) (by omega)
  rcases Nat.lt_or_ge i 29 with h | h
  · exact one 28 1 names_run_28 (by omega) (by omega)
  rcases Nat.lt_or_ge i 30 with h | h
  · exact one 29 1 names_run_29 (by omega) (by omega)
  rcases Nat.lt_or_ge i 31 with h | h
  · exact one 30 1 names_run_30 (by omega) (by omega)
  rcases Nat.lt_or_ge i 32 with h | h
  · exact one 31 1 names_run_31 (by omega) (by omega)
  rcases Nat.lt_or_ge i 33 with h | h
  · exact one 32 1 names_run_32 (by omega) (by omega)
  rcases Nat.lt_or_ge i 34 with h | h
  · exact one 33 1 names_run_33 (by omega) (by omega)
  rcases Nat.lt_or_ge i 35 with h | h
  · exact one 34 1 names_run_34 (by omega) (by omega)
  rcases Nat.lt_or_ge i 36 with h | h
  · exact one 35 1 names_run_35 (by omega) (by omega)
  rcases Nat.lt_or_ge i 37 with h | h
  · exact one 36 1 names_run_36 (by omega) (by omega)
  rcases Nat.lt_or_ge i 38 with h | h
  · exact one 37 1 names_run_37 (by omega) (by omega)
  rcases Nat.lt_or_ge i 39 with h | h
  · exact one 38 1 names_run_38 (by omega) (by omega)
  rcases Nat.lt_or_ge i 40 with h | h
  · exact one 39 1 names_run_39 (by omega) (by omega)
  rcases Nat.lt_or_ge i 41 with h | h
  · exact one 40 1 names_run_40 (by omega) (by omega)
  rcases Nat.lt_or_ge i 42 with h | h
  · exact one 41 1 names_run_41 (by omega) (by omega)
  rcases Nat.lt_or_ge i 43 with h | h
  · exact one 42 1 names_run_42 (by omega) (by omega)
  rcases Nat.lt_or_ge i 44 with h | h
  · exact one 43 1 names_run_43 (by omega) (by omega)
  rcases Nat.lt_or_ge i 45 with h | h
  · exact one 44 1 names_run_44 (by omega) (by omega)
  rcases Nat.lt_or_ge i 46 with h | h
  · exact one 45 1 names_run_45 (by omega) (by omega)
  rcases Nat.lt_or_ge i 47 with h | h
  · exact one 46 1 names_run_46 (by omega) (by omega)
  rcases Nat.lt_or_ge i 48 with h | h
  · exact one 47 1 names_run_47 (by omega) (by omega)
  rcases Nat.lt_or_ge i 49 with h | h
  · exact one 48 1 names_run_48 (by omega) (by omega)
  rcases Nat.lt_or_ge i 50 with h | h
  · exact one 49 1 names_run_49 (by omega) (by omega)
  rcases Nat.lt_or_ge i 51 with h | h
  · exact one 50 1 names_run_50 (by omega) (by omega)
  rcases Nat.lt_or_ge i 52 with h | h
  · exact one 51 1 names_run_51 (by omega) (by omega)
  rcases Nat.lt_or_ge i 53 with h | h
  · exact one 52 1 names_run_52 (by omega) (by omega)
  rcases Nat.lt_or_ge i 54 with h | h
  · exact one 53 1 names_run_53 (by omega) (by omega)
  rcases Nat.lt_or_ge i 55 with h | h
  · exact one 54 1 names_run_54 (by omega) (by omega)
  rcases Nat.lt_or_ge i 56 with h | h
  · exact one 55 1 names_run_55 (by omega) (by omega)
  rcases Nat.lt_or_ge i 57 with h | h
  · exact one 56 1 names_run_56 (by omega) (by omega)
  rcases Nat.lt_or_ge i 58 with h | h
  · exact one 57 1 names_run_57 (by omega) (by omega)
  rcases Nat.lt_or_ge i 59 with h | h
  · exact one 58 1 names_run_58 (by omega) (by omega)
  rcases Nat.lt_or_ge i 60 with h | h
  · exact one 59 1 names_run_59 (by omega) (by omega)
  rcases Nat.lt_or_ge i 61 with h | h
  · exact one 60 1 names_run_60 (by omega) (by omega)
  rcases Nat.lt_or_ge i 62 with h | h
  · exact one 61 1 names_run_61 (by omega) (by omega)
  rcases Nat.lt_or_ge i 63 with h | h
  · exact one 62 1 names_run_62 (by omega) (by omega)
  rcases Nat.lt_or_ge i 64 with h | h
  · exact one 63 1 names_run_63 (by omega) (by omega)
  rcases Nat.lt_or_ge i 65 with h | h
  · exact one 64 1 names_run_64 (by omega) (by omega)
  rcases Nat.lt_or_ge i 66 with h | h
  · exact one 65 1 names_run_65 (by omega) (by omega)
  rcases Nat.lt_or_ge i 67 with h | h
  · exact one 66 1 names_run_66 (by omega) (by omega)
  rcases Nat.lt_or_ge i 68 with h | h
  · exact one 67 1 names_run_67 (by omega) (by omega)
  rcases Nat.lt_or_ge i 69 with h | h
  · exact one 68 1 names_run_68 (by omega) (by omega)
  rcases Nat.lt_or_ge i 70 with h | h
  · exact one 69 1 names_run_69 (by omega) (by omega)
  rcases Nat.lt_or_ge i 71 with h | h
  · exact one 70 1 names_run_70 (by omega) (by omega)
  rcases Nat.lt_or_ge i 72 with h | h
  · exact one 71 1 names_run_71 (by omega) (by omega)
  rcases Nat.lt_or_ge i 73 with h | h
  · exact one 72 1 names_run_72 (by omega) (by omega)
  rcases Nat.lt_or_ge i 74 with h | h
  · exact one 73 1 names_run_73 (by omega) (by omega)
  rcases Nat.lt_or_ge i 75 with h | h
  · exact one 74 1 names_run_74 (by omega) (by omega)
  rcases Nat.lt_or_ge i 76 with h | h
  · exact one 75 1 names_run_75 (by omega) (by omega)
  rcases Nat.lt_or_ge i 77 with h | h
  · exact one 76 1 names_run_76 (by omega) (by omega)
  rcases Nat.lt_or_ge i 78 with h | h
  · exact one 77 1 names_run_77 (by omega) (by omega)
  rcases Nat.lt_or_ge i 79 with h | h
  · exact one 78 1 names_run_78 (by omega) (by omega)
  rcases Nat.lt_or_ge i 80 with h | h
  · exact one 79 1 names_run_79 (by omega) (by omega)
  exact absurd hi (by omega)
end
end Ev
end Go.Proofs.YtldhpefbemakhaaGreatDoor
