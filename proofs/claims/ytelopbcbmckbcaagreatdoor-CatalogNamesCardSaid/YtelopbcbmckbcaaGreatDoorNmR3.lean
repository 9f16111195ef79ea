/- The law of names: what applying yields, reckoned, some shapes. -/
import Derived.Test.YtelopbcbmckbcaaGreatDoorNm2
set_option linter.all false
namespace Go.Proofs.YtelopbcbmckbcaaGreatDoor
open Go.RowKit

namespace Ev
noncomputable section
set_option maxRecDepth 1000000
theorem row12 : rowOK 12 = true := by kernel_rfl
theorem row13 : rowOK 13 = true := by kernel_rfl
theorem row14 : rowOK 14 = true := by kernel_rfl
theorem row15 : rowOK 15 = true := by kernel_rfl
theorem row16 : rowOK 16 = true := by kernel_rfl
theorem row17 : rowOK 17 = true := by kernel_rfl
end
end Ev
end Go.Proofs.YtelopbcbmckbcaaGreatDoor
