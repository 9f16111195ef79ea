/- consistory/consistorylaw13.ResolveTypes yields true: all cases. -/
import Derived.Test.YtldhpefbemakhaaGreatDoorQTypes1
import Derived.Test.YtldhpefbemakhaaGreatDoorQTypes2
import Derived.Test.YtldhpefbemakhaaGreatDoorQTypes3
namespace Go.Proofs.YtldhpefbemakhaaGreatDoor
open Go.RowKit

namespace Ev
noncomputable section
theorem types_all : ∀ i, i < 224 → typesF i = true := by
  intro i hi
  have one : ∀ a l : Nat, (List.range' a l).all typesF = true → a ≤ i → i < a + l → typesF i = true := fun a l h h1 h2 => List.all_eq_true.1 h i (List.mem_range'_1.2 ⟨h1, h2⟩)
  rcases Nat.lt_or_ge i 4 with h | h
  · exact one 0 4 types_run_0 (by omega) (by omega)
  rcases Nat.lt_or_ge i 8 with h | h
  · exact one 4 4 types_run_4 (by omega) (by omega)
  rcases Nat.lt_or_ge i 12 with h | h
  · exact one 8 4 types_run_8 (by omega) (by omega)
  rcases Nat.lt_or_ge i 16 with h | h
  · exact one 12 4 types_run_12 (by omega) (by omega)
  rcases Nat.lt_or_ge i 20 with h | h
  · exact one 16 4 types_run_16 (by omega) (by omega)
  rcases Nat.lt_or_ge i 24 with h | h
  · exact one 20 4 types_run_20 (by omega) (by omega)
  rcases Nat.lt_or_ge i 28 with h | h
  · exact one 24 4 types_run_24 (by omega) (by omega)
  rcases Nat.lt_or_ge i 32 with h | h
  · exact one 28 4 types_run_28 (by omega) (by omega)
  rcases Nat.lt_or_ge i 36 with h | h
  · exact one 32 4 types_run_32 (by omega) (by omega)
  rcases Nat.lt_or_ge i 40 with h | h
  · exact one 36 4 types_run_36 (by omega) (by omega)
  rcases Nat.lt_or_ge i 44 with h | h
  · exact one 40 4 types_run_40 (by omega) (by omega)
  rcases Nat.lt_or_ge i 48 with h | h
  · exact one 44 4 types_run_44 (by omega) (by omega)
  rcases Nat.lt_or_ge i 52 with h | h
  · exact one 48 4 types_run_48 (by omega) (by omega)
  rcases Nat.lt_or_ge i 56 with h | h
  · exact one 52 4 types_run_52 (by omega) (by omega)
  rcases Nat.lt_or_ge i 60 with h | h
  · exact one 56 4 types_run_56 (by omega) (by omega)
  rcases Nat.lt_or_ge i 64 with h | h
  · exact one 60 4 types_run_60 (by omega) (by omega)
  rcases Nat.lt_or_ge i 68 with h | h
  · exact one 64 4 types_run_64 (by omega) (by omega)
  rcases Nat.lt_or_ge i 72 with h | h
  · exact one 68 4 types_run_68 (by omega) (by omega)
  rcases Nat.lt_or_ge i 76 with h | h
  · exact one 72 4 types_run_72 (by omega) (by omega)
  rcases Nat.lt_or_ge i 80 with h | h
  · exact one 76 4 types_run_76 (by omega) (by omega)
  rcases Nat.lt_or_ge i 84 with h | h
  · exact one 80 4 types_run_80 (by omega) (by omega)
  rcases Nat.lt_or_ge i 88 with h | h
  · exact one 84 4 types_run_84 (by omega) (by omega)
  rcases Nat.lt_or_ge i 92 with h | h
  · exact one 88 4 types_run_88 (by omega) (by omega)
  rcases Nat.lt_or_ge i 96 with h | h
  · exact one 92 4 types_run_92 (by omega) (by omega)
  rcases Nat.lt_or_ge i 100 with h | h
  · exact one 96 4 types_run_96 (by omega) (by omega)
  rcases Nat.lt_or_ge i 104 with h | h
  · exact one 100 4 types_run_100 (by omega) (by omega)
  rcases Nat.lt_or_ge i 108 with h | h
  · exact one 104 4 types_run_104 (by omega) (by omega)
  rcases Nat.lt_or_ge i 112 with h | h
  · exact one 108 4 types_run_108 (by omega) (by omega)
  rcases Nat.lt_or_ge i 116 with h | h
  · exact one 112 4 types_run_112 (by omega) (by omega)
  rcases Nat.lt_or_ge i 120 with h | h
  · exact one 116 4 types_run_116 (by omega) (by omega)
  rcases Nat.lt_or_ge i 124 with h | h
  · exact one 120 4 types_run_120 (by omega) (by omega)
  rcases Nat.lt_or_ge i 128 with h | h
  · exact one 124 4 types_run_124 (by omega) (by omega)
  rcases Nat.lt_or_ge i 132 with h | h
  · exact one 128 4 types_run_128 (by omega) (by omega)
  rcases Nat.lt_or_ge i 136 with h | h
  · exact one 132 4 types_run_132 (by omega) (by omega)
  rcases Nat.lt_or_ge i 140 with h | h
  · exact one 136 4 types_run_136 (by omega) (by omega)
  rcases Nat.lt_or_ge i 144 with h | h
  · exact one 140 4 types_run_140 (by omega) (by omega)
  rcases Nat.lt_or_ge i 148 with h | h
  · exact one 144 4 types_run_144 (by omega) (by omega)
  rcases Nat.lt_or_ge i 152 with h | h
  · exact one 148 4 types_run_148 (by omega) (by omega)
  rcases Nat.lt_or_ge i 156 with h | h
  · exact one 152 4 types_run_152 (by omega) (by omega)
  rcases Nat.lt_or_ge i 160 with h | h
  · exact one 156 4 types_run_156 (by omega) (by omega)
  rcases Nat.lt_or_ge i 164 with h | h
  · exact one 160 4 types_run_160 (by omega) (by omega)
  rcases Nat.lt_or_ge i 168 with h | h
  · exact one 164 4 types_run_164 (by omega) (by omega)
  rcases Nat.lt_or_ge i 172 with h | h
  · exact one 168 4 types_run_168 (by omega) (by omega)
  rcases Nat.lt_or_ge i 176 with h | h
  · exact one 172 4 types_run_172 (by omega) (by omega)
  rcases Nat.lt_or_ge i 180 with h | h
  · exact one 176 4 types_run_176 (by omega) (by omega)
  rcases Nat.lt_or_ge i 184 with h | h
  · exact one 180 4 types_run_180 (by omega) (by omega)
  rcases Nat.lt_or_ge i 188 with h | h
  · exact one 184 4 types_run_184 (by omega) (by omega)
  rcases Nat.lt_or_ge i 192 with h | h
  · exact one 188 4 types_run_188 (by omega) (by omega)
  rcases Nat.lt_or_ge i 196 with h | h
  · exact one 192 4 types_run_192 (by omega) (by omega)
  rcases Nat.lt_or_ge i 200 with h | h
  · exact one 196 4 types_run_196 (by omega) (by omega)
  rcases Nat.lt_or_ge i 204 with h | h
  · exact one 200 4 types_run_200 (by omega) (by omega)
  rcases Nat.lt_or_ge i 208 with h | h
  · exact one 204 4 types_run_204 (by omega) (by omega)
  rcases Nat.lt_or_ge i 212 with h | h
  · exact one 208 4 types_run_208 (by omega) (by omega)
  rcases Nat.lt_or_ge i 216 with h | h
  · exact one 212 4 types_run_212 (by omega) (by omega)
  rcases Nat.lt_or_ge i 220 with h | h
  · exact one 216 4 types_run_216 (by omega) (by omega)
  rcases Nat.lt_or_ge i 224 with h | h
  · exact one 220 4 types_run_220 (by omega) (by omega)
  exact absurd hi (by omega)
end
end Ev
end Go.Proofs.YtldhpefbemakhaaGreatDoor
