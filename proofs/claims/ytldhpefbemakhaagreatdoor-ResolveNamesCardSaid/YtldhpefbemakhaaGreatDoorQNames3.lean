/- consistory/consistorylaw13.ResolveNames yields true: reckoned, some cases. -/
import Derived.Test.YtldhpefbemakhaaGreatDoorQNamesF
namespace Go.Proofs.YtldhpefbemakhaaGreatDoor
open Go.RowKit

namespace Ev
noncomputable section
set_option maxRecDepth 1000000
theorem names_run_54 : (List.range' 54 1).all namesF = true := by kernel_rfl
theorem names_run_55 : (List.range' 55 1).all namesF = true := by kernel_rfl
theorem names_run_56 : (List.range' 56 1).all namesF = true := by kernel_rfl
theorem names_run_57 : (List.range' 57 1).all namesF = true := by kernel_rfl
theorem names_run_58 : (List.range' 58 1).all namesF = true := by kernel_rfl
theorem names_run_59 : (List.range' 59 1).all namesF = true := by kernel_rfl
theorem names_run_60 : (List.range' 60 1).all namesF = true := by kernel_rfl
theorem names_run_61 : (List.range' 61 1).all namesF = true := by kernel_rfl
theorem names_run_62 : (List.range' 62 1).all namesF = true := by kernel_rfl
theorem names_run_63 : (List.range' 63 1).all namesF = true := by kernel_rfl
theorem names_run_64 : (List.range' 64 1).all namesF = true := by kernel_rfl
theorem names_run_65 : (List.range' 65 1).all namesF = true := by kernel_rfl
theorem names_run_66 : (List.range' 66 1).all namesF = true := by kernel_rfl
theorem names_run_67 : (List.range' 67 1).all namesF = true := by kernel_rfl
theorem names_run_68 : (List.range' 68 1).all namesF = true := by kernel_rfl
theorem names_run_69 : (List.range' 69 1).all namesF = true := by kernel_rfl
theorem names_run_70 : (List.range' 70 1).all namesF = true := by kernel_rfl
theorem names_run_71 : (List.range' 71 1).all namesF = true := by kernel_rfl
theorem names_run_72 : (List.range' 72 1).all namesF = true := by kernel_rfl
theorem names_run_73 : (List.range' 73 1).all namesF = true := by kernel_rfl
theorem names_run_74 : (List.range' 74 1).all namesF = true := by kernel_rfl
theorem names_run_75 : (List.range' 75 1).all namesF = true := by kernel_rfl
theorem names_run_76 : (List.range' 76 1).all namesF = true := by kernel_rfl
theorem names_run_77 : (List.range' 77 1).all namesF = true := by kernel_rfl
theorem names_run_78 : (List.range' 78 1).all namesF = true := by kernel_rfl
theorem names_run_79 : (List.range' 79 1).all namesF = true := by kernel_rfl
end
end Ev
end Go.Proofs.YtldhpefbemakhaaGreatDoor
