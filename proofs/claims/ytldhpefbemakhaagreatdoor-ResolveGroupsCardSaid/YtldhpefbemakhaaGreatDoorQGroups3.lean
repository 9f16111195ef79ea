/- consistory/consistorylaw13.ResolveGroups yields true: reckoned, some cases. -/
import Derived.Test.YtldhpefbemakhaaGreatDoorQGroupsF
namespace Go.Proofs.YtldhpefbemakhaaGreatDoor
open Go.RowKit

namespace Ev
noncomputable section
set_option maxRecDepth 1000000
theorem groups_run_22 : (List.range' 22 1).all groupsF = true := by kernel_rfl
theorem groups_run_23 : (List.range' 23 1).all groupsF = true := by kernel_rfl
theorem groups_run_24 : (List.range' 24 1).all groupsF = true := by kernel_rfl
theorem groups_run_25 : (List.range' 25 1).all groupsF = true := by kernel_rfl
theorem groups_run_26 : (List.range' 26 1).all groupsF = true := by kernel_rfl
theorem groups_run_27 : (List.range' 27 1).all groupsF = true := by kernel_rfl
theorem groups_run_28 : (List.range' 28 1).all groupsF = true := by kernel_rfl
theorem groups_run_29 : (List.range' 29 1).all groupsF = true := by kernel_rfl
theorem groups_run_30 : (List.range' 30 1).all groupsF = true := by kernel_rfl
theorem groups_run_31 : (List.range' 31 1).all groupsF = true := by kernel_rfl
end
end Ev
end Go.Proofs.YtldhpefbemakhaaGreatDoor
