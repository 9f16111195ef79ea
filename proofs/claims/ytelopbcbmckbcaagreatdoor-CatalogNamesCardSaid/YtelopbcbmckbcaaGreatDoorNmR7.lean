/- The law of names: what applying yields, reckoned, some shapes. -/
import Derived.Test.YtelopbcbmckbcaaGreatDoorNm2
set_option linter.all false
namespace Go.Proofs.YtelopbcbmckbcaaGreatDoor
open Go.RowKit

namespace Ev
noncomputable section
set_option maxRecDepth 1000000
theorem row36 : rowOK 36 = true := by kernel_rfl
theorem row37 : rowOK 37 = true := by kernel_rfl
theorem row38 : rowOK 38 = true := by kernel_rfl
theorem row39 : rowOK 39 = true := by kernel_rfl
theorem row40 : rowOK 40 = true := by kernel_rfl
end
end Ev
end Go.Proofs.YtelopbcbmckbcaaGreatDoor
