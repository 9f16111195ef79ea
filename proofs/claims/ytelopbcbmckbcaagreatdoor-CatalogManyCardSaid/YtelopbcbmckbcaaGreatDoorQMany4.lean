/- consistorylaw11.CatalogMany yields true: reckoned, some cases. -/
import Derived.Test.YtelopbcbmckbcaaGreatDoorStmts
set_option linter.all false
namespace Go.Proofs.YtelopbcbmckbcaaGreatDoor
open Go.RowKit

namespace Ev
noncomputable section
set_option maxRecDepth 1000000
theorem many_1_1 : manyF cs2 1 1 = true := by kernel_rfl
theorem many_1_3 : manyF cs2 1 3 = true := by kernel_rfl
theorem many_1_5 : manyF cs2 1 5 = true := by kernel_rfl
theorem many_1_7 : manyF cs2 1 7 = true := by kernel_rfl
theorem many_3_0 : manyF cs4 3 0 = true := by kernel_rfl
theorem many_3_2 : manyF cs4 3 2 = true := by kernel_rfl
theorem many_3_4 : manyF cs4 3 4 = true := by kernel_rfl
theorem many_3_6 : manyF cs4 3 6 = true := by kernel_rfl
theorem many_3_8 : manyF cs4 3 8 = true := by kernel_rfl
theorem many_5_1 : manyF cs6 5 1 = true := by kernel_rfl
theorem many_5_3 : manyF cs6 5 3 = true := by kernel_rfl
theorem many_5_5 : manyF cs6 5 5 = true := by kernel_rfl
theorem many_5_7 : manyF cs6 5 7 = true := by kernel_rfl
theorem many_6_1 : manyF cs7 6 1 = true := by kernel_rfl
theorem many_6_5 : manyF cs7 6 5 = true := by kernel_rfl
theorem many_7_0 : manyF cs8 7 0 = true := by kernel_rfl
theorem many_7_4 : manyF cs8 7 4 = true := by kernel_rfl
theorem many_7_8 : manyF cs8 7 8 = true := by kernel_rfl
theorem many_8_3 : manyF cs9 8 3 = true := by kernel_rfl
theorem many_8_7 : manyF cs9 8 7 = true := by kernel_rfl
end
end Ev
end Go.Proofs.YtelopbcbmckbcaaGreatDoor
