/- consistory/consistorylaw13.ResolveGroups yields true: reckoned, some cases. -/
import Derived.Test.YtldhpefbemakhaaGreatDoorQGroupsF
namespace Go.Proofs.YtldhpefbemakhaaGreatDoor
open Go.RowKit

namespace Ev
noncomputable section
set_option maxRecDepth 1000000
theorem groups_run_0 : (List.range' 0 1).all groupsF = true := by kernel_rfl
theorem groups_run_1 : (List.range' 1 1).all groupsF = true := by kernel_rfl
theorem groups_run_2 : (List.range' 2 1).all groupsF = true := by kernel_rfl
theorem groups_run_3 : (List.range' 3 1).all groupsF = true := by kernel_rfl
theorem groups_run_4 : (List.range' 4 1).all groupsF = true := by kernel_rfl
theorem groups_run_5 : (List.range' 5 1).all groupsF = true := by kernel_rfl
theorem groups_run_6 : (List.range' 6 1).all groupsF = true := by kernel_rfl
theorem groups_run_7 : (List.range' 7 1).all groupsF = true := by kernel_rfl
theorem groups_run_8 : (List.range' 8 1).all groupsF = true := by kernel_rfl
theorem groups_run_9 : (List.range' 9 1).all groupsF = true := by kernel_rfl
theorem groups_run_10 : (List.range' 10 1).all groupsF = true := by kernel_rfl
end
end Ev
end Go.Proofs.YtldhpefbemakhaaGreatDoor
