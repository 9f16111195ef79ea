/- consistory/consistorylaw13.ResolveTypes yields true: reckoned, some cases. -/
import Derived.Test.YtldhpefbemakhaaGreatDoorQTypesF
namespace Go.Proofs.YtldhpefbemakhaaGreatDoor
open Go.RowKit

namespace Ev
noncomputable section
set_option maxRecDepth 1000000
theorem types_run_152 : (List.range' 152 4).all typesF = true := by kernel_rfl
theorem types_run_156 : (List.range' 156 4).all typesF = true := by kernel_rfl
theorem types_run_160 : (List.range' 160 4).all typesF = true := by kernel_rfl
theorem types_run_164 : (List.range' 164 4).all typesF = true := by kernel_rfl
theorem types_run_168 : (List.range' 168 4).all typesF = true := by kernel_rfl
theorem types_run_172 : (List.range' 172 4).all typesF = true := by kernel_rfl
theorem types_run_176 : (List.range' 176 4).all typesF = true := by kernel_rfl
theorem types_run_180 : (List.range' 180 4).all typesF = true := by kernel_rfl
theorem types_run_184 : (List.range' 184 4).all typesF = true := by kernel_rfl
theorem types_run_188 : (List.range' 188 4).all typesF = true := by kernel_rfl
theorem types_run_192 : (List.range' 192 4).all typesF = true := by kernel_rfl
theorem types_run_196 : (List.range' 196 4).all typesF = true := by kernel_rfl
theorem types_run_200 : (List.range' 200 4).all typesF = true := by kernel_rfl
theorem types_run_204 : (List.range' 204 4).all typesF = true := by kernel_rfl
theorem types_run_208 : (List.range' 208 4).all typesF = true := by kernel_rfl
theorem types_run_212 : (List.range' 212 4).all typesF = true := by kernel_rfl
theorem types_run_216 : (List.range' 216 4).all typesF = true := by kernel_rfl
theorem types_run_220 : (List.range' 220 4).all typesF = true := by kernel_rfl
end
end Ev
end Go.Proofs.YtldhpefbemakhaaGreatDoor
