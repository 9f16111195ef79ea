/- consistory/consistorylaw13.ResolveStars yields true: reckoned, some cases. -/
import Derived.Test.YtldhpefbemakhaaGreatDoorQStarsF
namespace Go.Proofs.YtldhpefbemakhaaGreatDoor
open Go.RowKit

namespace Ev
noncomputable section
set_option maxRecDepth 1000000
theorem stars_run_8 : (List.range' 8 1).all starsF = true := by kernel_rfl
theorem stars_run_9 : (List.range' 9 1).all starsF = true := by kernel_rfl
theorem stars_run_10 : (List.range' 10 1).all starsF = true := by kernel_rfl
theorem stars_run_11 : (List.range' 11 1).all starsF = true := by kernel_rfl
end
end Ev
end Go.Proofs.YtldhpefbemakhaaGreatDoor
