/- consistory/consistorylaw13.ResolveTypes yields true: reckoned, some cases. -/
import Derived.Test.YtldhpefbemakhaaGreatDoorQTypesF
namespace Go.Proofs.YtldhpefbemakhaaGreatDoor
open Go.RowKit

namespace Ev
noncomputable section
set_option maxRecDepth 1000000
theorem types_run_0 : (List.range' 0 4).all typesF = true := by kernel_rfl
theorem types_run_4 : (List.range' 4 4).all typesF = true := by kernel_rfl
theorem types_run_8 : (List.range' 8 4).all typesF = true := by kernel_rfl
theorem types_run_12 : (List.range' 12 4).all typesF = true := by kernel_rfl
theorem types_run_16 : (List.range' 16 4).all typesF = true := by kernel_rfl
theorem types_run_20 : (List.range' 20 4).all typesF = true := by kernel_rfl
theorem types_run_24 : (List.range' 24 4).all typesF = true := by kernel_rfl
theorem types_run_28 : (List.range' 28 4).all typesF = true := by kernel_rfl
theorem types_run_32 : (List.range' 32 4).all typesF = true := by kernel_rfl
theorem types_run_36 : (List.range' 36 4).all typesF = true := by kernel_rfl
theorem types_run_40 : (List.range' 40 4).all typesF = true := by kernel_rfl
theorem types_run_44 : (List.range' 44 4).all typesF = true := by kernel_rfl
theorem types_run_48 : (List.range' 48 4).all typesF = true := by kernel_rfl
theorem types_run_52 : (List.range' 52 4).all typesF = true := by kernel_rfl
theorem types_run_56 : (List.range' 56 4).all typesF = true := by kernel_rfl
theorem types_run_60 : (List.range' 60 4).all typesF = true := by kernel_rfl
theorem types_run_64 : (List.range' 64 4).all typesF = true := by kernel_rfl
theorem types_run_68 : (List.range' 68 4).all typesF = true := by kernel_rfl
theorem types_run_72 : (List.range' 72 4).all typesF = true := by kernel_rfl
end
end Ev
end Go.Proofs.YtldhpefbemakhaaGreatDoor
