/- consistorylaw11.CatalogMany yields true: reckoned, some cases. -/
import Derived.Test.YtelopbcbmckbcaaGreatDoorStmts
set_option linter.all false
namespace Go.Proofs.YtelopbcbmckbcaaGreatDoor
open Go.RowKit

namespace Ev
noncomputable section
set_option maxRecDepth 1000000
theorem many_1_0 : manyF cs2 1 0 = true := by kernel_rfl
theorem many_1_2 : manyF cs2 1 2 = true := by kernel_rfl
theorem many_1_4 : manyF cs2 1 4 = true := by kernel_rfl
theorem many_1_6 : manyF cs2 1 6 = true := by kernel_rfl
theorem many_1_8 : manyF cs2 1 8 = true := by kernel_rfl
theorem many_3_1 : manyF cs4 3 1 = true := by kernel_rfl
theorem many_3_3 : manyF cs4 3 3 = true := by kernel_rfl
theorem many_3_5 : manyF cs4 3 5 = true := by kernel_rfl
theorem many_3_7 : manyF cs4 3 7 = true := by kernel_rfl
theorem many_5_0 : manyF cs6 5 0 = true := by kernel_rfl
theorem many_5_2 : manyF cs6 5 2 = true := by kernel_rfl
theorem many_5_4 : manyF cs6 5 4 = true := by kernel_rfl
theorem many_5_6 : manyF cs6 5 6 = true := by kernel_rfl
theorem many_5_8 : manyF cs6 5 8 = true := by kernel_rfl
theorem many_6_3 : manyF cs7 6 3 = true := by kernel_rfl
theorem many_6_7 : manyF cs7 6 7 = true := by kernel_rfl
theorem many_7_2 : manyF cs8 7 2 = true := by kernel_rfl
theorem many_7_6 : manyF cs8 7 6 = true := by kernel_rfl
theorem many_8_1 : manyF cs9 8 1 = true := by kernel_rfl
theorem many_8_5 : manyF cs9 8 5 = true := by kernel_rfl
end
end Ev
end Go.Proofs.YtelopbcbmckbcaaGreatDoor
