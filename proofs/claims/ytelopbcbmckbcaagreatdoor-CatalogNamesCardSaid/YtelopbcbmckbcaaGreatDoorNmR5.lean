/- The law of names: what applying yields, reckoned, some shapes. -/
import Derived.Test.YtelopbcbmckbcaaGreatDoorNm2
set_option linter.all false
namespace Go.Proofs.YtelopbcbmckbcaaGreatDoor
open Go.RowKit

namespace Ev
noncomputable section
set_option maxRecDepth 1000000
theorem row24 : rowOK 24 = true := by kernel_rfl
theorem row25 : rowOK 25 = true := by kernel_rfl
theorem row26 : rowOK 26 = true := by kernel_rfl
theorem row27 : rowOK 27 = true := by kernel_rfl
theorem row28 : rowOK 28 = true := by kernel_rfl
theorem row29 : rowOK 29 = true := by kernel_rfl
end
end Ev
end Go.Proofs.YtelopbcbmckbcaaGreatDoor
