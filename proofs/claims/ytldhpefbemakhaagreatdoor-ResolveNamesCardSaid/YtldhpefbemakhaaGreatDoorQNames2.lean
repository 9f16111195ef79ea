/- consistory/consistorylaw13.ResolveNames yields true: reckoned, some cases. -/
import Derived.Test.YtldhpefbemakhaaGreatDoorQNamesF
namespace Go.Proofs.YtldhpefbemakhaaGreatDoor
open Go.RowKit

namespace Ev
noncomputable section
set_option maxRecDepth 1000000
theorem names_run_27 : (List.range' 27 1).all namesF = true := by kernel_rfl
theorem names_run_28 : (List.range' 28 1).all namesF = true := by kernel_rfl
theorem names_run_29 : (List.range' 29 1).all namesF = true := by kernel_rfl
theorem names_run_30 : (List.range' 30 1).all namesF = true := by kernel_rfl
theorem names_run_31 : (List.range' 31 1).all namesF = true := by kernel_rfl
theorem names_run_32 : (List.range' 32 1).all namesF = true := by kernel_rfl
theorem names_run_33 : (List.range' 33 1).all namesF = true := by kernel_rfl
theorem names_run_34 : (List.range' 34 1).all namesF = true := by kernel_rfl
theorem names_run_35 : (List.range' 35 1).all namesF = true := by kernel_rfl
theorem names_run_36 : (List.range' 36 1).all namesF = true := by kernel_rfl
theorem names_run_37 : (List.range' 37 1).all namesF = true := by kernel_rfl
theorem names_run_38 : (List.range' 38 1).all namesF = true := by kernel_rfl
theorem names_run_39 : (List.range' 39 1).all namesF = true := by kernel_rfl
theorem names_run_40 : (List.range' 40 1).all namesF = true := by kernel_rfl
theorem names_run_41 : (List.range' 41 1).all namesF = true := by kernel_rfl
theorem names_run_42 : (List.range' 42 1).all namesF = true := by kernel_rfl
theorem names_run_43 : (List.range' 43 1).all namesF = true := by kernel_rfl
theorem names_run_44 : (List.range' 44 1).all namesF = true := by kernel_rfl
theorem names_run_45 : (List.range' 45 1).all namesF = true := by kernel_rfl
theorem names_run_46 : (List.range' 46 1).all namesF = true := by kernel_rfl
theorem names_run_47 : (List.range' 47 1).all namesF = true := by kernel_rfl
theorem names_run_48 : (List.range' 48 1).all namesF = true := by kernel_rfl
theorem names_run_49 : (List.range' 49 1).all namesF = true := by kernel_rfl
theorem names_run_50 : (List.range' 50 1).all namesF = true := by kernel_rfl
theorem names_run_51 : (List.range' 51 1).all namesF = true := by kernel_rfl
theorem names_run_52 : (List.range' 52 1).all namesF = true := by kernel_rfl
theorem names_run_53 : (List.range' 53 1).all namesF = true := by kernel_rfl
end
end Ev
end Go.Proofs.YtldhpefbemakhaaGreatDoor
