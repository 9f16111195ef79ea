/- The law of names: what applying yields, reckoned, some shapes. -/
import Derived.Test.YtelopbcbmckbcaaGreatDoorNm2
set_option linter.all false
namespace Go.Proofs.YtelopbcbmckbcaaGreatDoor
open Go.RowKit

namespace Ev
noncomputable section
set_option maxRecDepth 1000000
theorem row18 : rowOK 18 = true := by kernel_rfl
theorem row19 : rowOK 19 = true := by kernel_rfl
theorem row20 : rowOK 20 = true := by kernel_rfl
theorem row21 : rowOK 21 = true := by kernel_rfl
theorem row22 : rowOK 22 = true := by kernel_rfl
theorem row23 : rowOK 23 = true := by kernel_rfl
end
end Ev
end Go.Proofs.YtelopbcbmckbcaaGreatDoor
