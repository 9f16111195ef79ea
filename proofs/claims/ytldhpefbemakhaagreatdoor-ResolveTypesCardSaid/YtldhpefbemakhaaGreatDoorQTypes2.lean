/- consistory/consistorylaw13.ResolveTypes yields true: reckoned, some cases. -/
import Derived.Test.YtldhpefbemakhaaGreatDoorQTypesF
namespace Go.Proofs.YtldhpefbemakhaaGreatDoor
open Go.RowKit

namespace Ev
noncomputable section
set_option maxRecDepth 1000000
theorem types_run_76 : (List.range' 76 4).all typesF = true := by kernel_rfl
theorem types_run_80 : (List.range' 80 4).all typesF = true := by kernel_rfl
theorem types_run_84 : (List.range' 84 4).all typesF = true := by kernel_rfl
theorem types_run_88 : (List.range' 88 4).all typesF = true := by kernel_rfl
theorem types_run_92 : (List.range' 92 4).all typesF = true := by kernel_rfl
theorem types_run_96 : (List.range' 96 4).all typesF = true := by kernel_rfl
theorem types_run_100 : (List.range' 100 4).all typesF = true := by kernel_rfl
theorem types_run_104 : (List.range' 104 4).all typesF = true := by kernel_rfl
theorem types_run_108 : (List.range' 108 4).all typesF = true := by kernel_rfl
theorem types_run_112 : (List.range' 112 4).all typesF = true := by kernel_rfl
theorem types_run_116 : (List.range' 116 4).all typesF = true := by kernel_rfl
theorem types_run_120 : (List.range' 120 4).all typesF = true := by kernel_rfl
theorem types_run_124 : (List.range' 124 4).all typesF = true := by kernel_rfl
theorem types_run_128 : (List.range' 128 4).all typesF = true := by kernel_rfl
theorem types_run_132 : (List.range' 132 4).all typesF = true := by kernel_rfl
theorem types_run_136 : (List.range' 136 4).all typesF = true := by kernel_rfl
theorem types_run_140 : (List.range' 140 4).all typesF = true := by kernel_rfl
theorem types_run_144 : (List.range' 144 4).all typesF = true := by kernel_rfl
theorem types_run_148 : (List.range' 148 4).all typesF = true := by kernel_rfl
end
end Ev
end Go.Proofs.YtldhpefbemakhaaGreatDoor
