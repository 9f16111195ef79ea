/- consistory/consistorylaw13.ResolveStars yields true: reckoned, some cases. -/
import Derived.Test.YtldhpefbemakhaaGreatDoorQStarsF
namespace Go.Proofs.YtldhpefbemakhaaGreatDoor
open Go.RowKit

namespace Ev
noncomputable section
set_option maxRecDepth 1000000
theorem stars_run_4 : (List.range' 4 1).all starsF = true := by kernel_rfl
theorem stars_run_5 : (List.range' 5 1).all starsF = true := by kernel_rfl
theorem stars_run_6 : (List.range' 6 1).all starsF = true := by kernel_rfl
theorem stars_run_7 : (List.range' 7 1).all starsF = true := by kernel_rfl
end
end Ev
end Go.Proofs.YtldhpefbemakhaaGreatDoor
