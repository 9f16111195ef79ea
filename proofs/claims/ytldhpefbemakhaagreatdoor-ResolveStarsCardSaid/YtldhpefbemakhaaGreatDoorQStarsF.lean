/- consistory/consistorylaw13.ResolveStars: one case, by its number. -/
import Derived.Test.YtldhpefbemakhaaGreatDoorQ13
import Derived.Test.YtldhpefbemakhaaGreatDoorSymB
namespace Go.Proofs.YtldhpefbemakhaaGreatDoor
open Go.RowKit

namespace Ev
noncomputable section
def starsF (i : Nat) : Bool := okTrue cx1.call 4 [symU 0 3 (i / 4), symU 10 4 ((i) % 4)]
end
end Ev
end Go.Proofs.YtldhpefbemakhaaGreatDoor
