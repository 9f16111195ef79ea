/- consistory/consistorylaw13.ResolveStars yields true: reckoned, some cases. -/
import Derived.Test.YtldhpefbemakhaaGreatDoorQStarsF
namespace Go.Proofs.YtldhpefbemakhaaGreatDoor
open Go.RowKit

namespace Ev
noncomputable section
set_option maxRecDepth 1000000
theorem stars_run_0 : (List.range' 0 1).all starsF = true := by kernel_rfl
theorem stars_run_1 : (List.range' 1 1).all starsF = true := by kernel_rfl
theorem stars_run_2 : (List.range' 2 1).all starsF = true := by kernel_rfl
theorem stars_run_3 : (List.range' 3 1).all starsF = true := by kernel_rfl
end
end Ev
end Go.Proofs.YtldhpefbemakhaaGreatDoor
