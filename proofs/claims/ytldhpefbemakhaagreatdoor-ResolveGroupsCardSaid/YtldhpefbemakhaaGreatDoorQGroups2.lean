/- consistory/consistorylaw13.ResolveGroups yields true: reckoned, some cases. -/
import Derived.Test.YtldhpefbemakhaaGreatDoorQGroupsF
namespace Go.Proofs.YtldhpefbemakhaaGreatDoor
open Go.RowKit

namespace Ev
noncomputable section
set_option maxRecDepth 1000000
theorem groups_run_11 : (List.range' 11 1).all groupsF = true := by kernel_rfl
theorem groups_run_12 : (List.range' 12 1).all groupsF = true := by kernel_rfl
theorem groups_run_13 : (List.range' 13 1).all groupsF = true := by kernel_rfl
theorem groups_run_14 : (List.range' 14 1).all groupsF = true := by kernel_rfl
theorem groups_run_15 : (List.range' 15 1).all groupsF = true := by kernel_rfl
theorem groups_run_16 : (List.range' 16 1).all groupsF = true := by kernel_rfl
theorem groups_run_17 : (List.range' 17 1).all groupsF = true := by kernel_rfl
theorem groups_run_18 : (List.range' 18 1).all groupsF = true := by kernel_rfl
theorem groups_run_19 : (List.range' 19 1).all groupsF = true := by kernel_rfl
theorem groups_run_20 : (List.range' 20 1).all groupsF = true := by kernel_rfl
theorem groups_run_21 : (List.range' 21 1).all groupsF = true := by kernel_rfl
end
end Ev
end Go.Proofs.YtldhpefbemakhaaGreatDoor
