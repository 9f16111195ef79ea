/- consistorylaw11.CatalogMany yields true: reckoned, some cases. -/
import Derived.Test.YtelopbcbmckbcaaGreatDoorStmts
set_option linter.all false
namespace Go.Proofs.YtelopbcbmckbcaaGreatDoor
open Go.RowKit

namespace Ev
noncomputable section
set_option maxRecDepth 1000000
theorem many_0_1 : manyF cs1 0 1 = true := by kernel_rfl
theorem many_0_3 : manyF cs1 0 3 = true := by kernel_rfl
theorem many_0_5 : manyF cs1 0 5 = true := by kernel_rfl
theorem many_0_7 : manyF cs1 0 7 = true := by kernel_rfl
theorem many_2_0 : manyF cs3 2 0 = true := by kernel_rfl
theorem many_2_2 : manyF cs3 2 2 = true := by kernel_rfl
theorem many_2_4 : manyF cs3 2 4 = true := by kernel_rfl
theorem many_2_6 : manyF cs3 2 6 = true := by kernel_rfl
theorem many_2_8 : manyF cs3 2 8 = true := by kernel_rfl
theorem many_4_1 : manyF cs5 4 1 = true := by kernel_rfl
theorem many_4_3 : manyF cs5 4 3 = true := by kernel_rfl
theorem many_4_5 : manyF cs5 4 5 = true := by kernel_rfl
theorem many_4_7 : manyF cs5 4 7 = true := by kernel_rfl
theorem many_6_0 : manyF cs7 6 0 = true := by kernel_rfl
theorem many_6_4 : manyF cs7 6 4 = true := by kernel_rfl
theorem many_6_8 : manyF cs7 6 8 = true := by kernel_rfl
theorem many_7_3 : manyF cs8 7 3 = true := by kernel_rfl
theorem many_7_7 : manyF cs8 7 7 = true := by kernel_rfl
theorem many_8_2 : manyF cs9 8 2 = true := by kernel_rfl
theorem many_8_6 : manyF cs9 8 6 = true := by kernel_rfl
end
end Ev
end Go.Proofs.YtelopbcbmckbcaaGreatDoor
