/- The law of names: what applying yields, reckoned, some shapes. -/
import Derived.Test.YtelopbcbmckbcaaGreatDoorNm2
set_option linter.all false
namespace Go.Proofs.YtelopbcbmckbcaaGreatDoor
open Go.RowKit

namespace Ev
noncomputable section
set_option maxRecDepth 1000000
theorem row6 : rowOK 6 = true := by kernel_rfl
theorem row7 : rowOK 7 = true := by kernel_rfl
theorem row8 : rowOK 8 = true := by kernel_rfl
theorem row9 : rowOK 9 = true := by kernel_rfl
theorem row10 : rowOK 10 = true := by kernel_rfl
theorem row11 : rowOK 11 = true := by kernel_rfl
end
end Ev
end Go.Proofs.YtelopbcbmckbcaaGreatDoor
