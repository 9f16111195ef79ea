/- The law of names: what applying yields, reckoned, some shapes. -/
import Derived.Test.YtelopbcbmckbcaaGreatDoorNm2
set_option linter.all false
namespace Go.Proofs.YtelopbcbmckbcaaGreatDoor
open Go.RowKit

namespace Ev
noncomputable section
set_option maxRecDepth 1000000
theorem row30 : rowOK 30 = true := by kernel_rfl
theorem row31 : rowOK 31 = true := by kernel_rfl
theorem row32 : rowOK 32 = true := by kernel_rfl
theorem row33 : rowOK 33 = true := by kernel_rfl
theorem row34 : rowOK 34 = true := by kernel_rfl
theorem row35 : rowOK 35 = true := by kernel_rfl
end
end Ev
end Go.Proofs.YtelopbcbmckbcaaGreatDoor
