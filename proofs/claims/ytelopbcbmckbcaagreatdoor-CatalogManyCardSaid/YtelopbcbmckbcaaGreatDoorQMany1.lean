/- consistorylaw11.CatalogMany yields true: reckoned, some cases. -/
import Derived.Test.YtelopbcbmckbcaaGreatDoorStmts
set_option linter.all false
namespace Go.Proofs.YtelopbcbmckbcaaGreatDoor
open Go.RowKit

namespace Ev
noncomputable section
set_option maxRecDepth 1000000
theorem many_0_0 : manyF cs1 0 0 = true := by kernel_rfl
theorem many_0_2 : manyF cs1 0 2 = true := by kernel_rfl
theorem many_0_4 : manyF cs1 0 4 = true := by kernel_rfl
theorem many_0_6 : manyF cs1 0 6 = true := by kernel_rfl
theorem many_0_8 : manyF cs1 0 8 = true := by kernel_rfl
theorem many_2_1 : manyF cs3 2 1 = true := by kernel_rfl
theorem many_2_3 : manyF cs3 2 3 = true := by kernel_rfl
theorem many_2_5 : manyF cs3 2 5 = true := by kernel_rfl
theorem many_2_7 : manyF cs3 2 7 = true := by kernel_rfl
theorem many_4_0 : manyF cs5 4 0 = true := by kernel_rfl
theorem many_4_2 : manyF cs5 4 2 = true := by kernel_rfl
theorem many_4_4 : manyF cs5 4 4 = true := by kernel_rfl
theorem many_4_6 : manyF cs5 4 6 = true := by kernel_rfl
theorem many_4_8 : manyF cs5 4 8 = true := by kernel_rfl
theorem many_6_2 : manyF cs7 6 2 = true := by kernel_rfl
theorem many_6_6 : manyF cs7 6 6 = true := by kernel_rfl
theorem many_7_1 : manyF cs8 7 1 = true := by kernel_rfl
theorem many_7_5 : manyF cs8 7 5 = true := by kernel_rfl
theorem many_8_0 : manyF cs9 8 0 = true := by kernel_rfl
theorem many_8_4 : manyF cs9 8 4 = true := by kernel_rfl
theorem many_8_8 : manyF cs9 8 8 = true := by kernel_rfl
end
end Ev
end Go.Proofs.YtelopbcbmckbcaaGreatDoor
