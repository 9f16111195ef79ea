/- The law of names: what applying yields, reckoned, some shapes. -/
import Derived.Test.YtelopbcbmckbcaaGreatDoorNm2
set_option linter.all false
namespace Go.Proofs.YtelopbcbmckbcaaGreatDoor
open Go.RowKit

namespace Ev
noncomputable section
set_option maxRecDepth 1000000
theorem row0 : rowOK 0 = true := by kernel_rfl
theorem row1 : rowOK 1 = true := by kernel_rfl
theorem row2 : rowOK 2 = true := by kernel_rfl
theorem row3 : rowOK 3 = true := by kernel_rfl
theorem row4 : rowOK 4 = true := by kernel_rfl
theorem row5 : rowOK 5 = true := by kernel_rfl
end
end Ev
end Go.Proofs.YtelopbcbmckbcaaGreatDoor
