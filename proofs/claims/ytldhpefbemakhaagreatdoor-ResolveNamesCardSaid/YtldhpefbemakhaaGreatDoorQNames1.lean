/- consistory/consistorylaw13.ResolveNames yields true: reckoned, some cases. -/
import Derived.Test.YtldhpefbemakhaaGreatDoorQNamesF
namespace Go.Proofs.YtldhpefbemakhaaGreatDoor
open Go.RowKit

namespace Ev
noncomputable section
set_option maxRecDepth 1000000
theorem names_run_0 : (List.range' 0 1).all namesF = true := by kernel_rfl
theorem names_run_1 : (List.range' 1 1).all namesF = true := by kernel_rfl
theorem names_run_2 : (List.range' 2 1).all namesF = true := by kernel_rfl
theorem names_run_3 : (List.range' 3 1).all namesF = true := by kernel_rfl
theorem names_run_4 : (List.range' 4 1).all namesF = true := by kernel_rfl
theorem names_run_5 : (List.range' 5 1).all namesF = true := by kernel_rfl
theorem names_run_6 : (List.range' 6 1).all namesF = true := by kernel_rfl
theorem names_run_7 : (List.range' 7 1).all namesF = true := by kernel_rfl
theorem names_run_8 : (List.range' 8 1).all namesF = true := by kernel_rfl
theorem names_run_9 : (List.range' 9 1).all namesF = true := by kernel_rfl
theorem names_run_10 : (List.range' 10 1).all namesF = true := by kernel_rfl
theorem names_run_11 : (List.range' 11 1).all namesF = true := by kernel_rfl
theorem names_run_12 : (List.range' 12 1).all namesF = true := by kernel_rfl
theorem names_run_13 : (List.range' 13 1).all namesF = true := by kernel_rfl
theorem names_run_14 : (List.range' 14 1).all namesF = true := by kernel_rfl
theorem names_run_15 : (List.range' 15 1).all namesF = true := by kernel_rfl
theorem names_run_16 : (List.range' 16 1).all namesF = true := by kernel_rfl
theorem names_run_17 : (List.range' 17 1).all namesF = true := by kernel_rfl
theorem names_run_18 : (List.range' 18 1).all namesF = true := by kernel_rfl
theorem names_run_19 : (List.range' 19 1).all namesF = true := by kernel_rfl
theorem names_run_20 : (List.range' 20 1).all namesF = true := by kernel_rfl
theorem names_run_21 : (List.range' 21 1).all namesF = true := by kernel_rfl
theorem names_run_22 : (List.range' 22 1).all namesF = true := by kernel_rfl
theorem names_run_23 : (List.range' 23 1).all namesF = true := by kernel_rfl
theorem names_run_24 : (List.range' 24 1).all namesF = true := by kernel_rfl
theorem names_run_25 : (List.range' 25 1).all namesF = true := by kernel_rfl
theorem names_run_26 : (List.range' 26 1).all namesF = true := by kernel_rfl
end
end Ev
end Go.Proofs.YtldhpefbemakhaaGreatDoor
