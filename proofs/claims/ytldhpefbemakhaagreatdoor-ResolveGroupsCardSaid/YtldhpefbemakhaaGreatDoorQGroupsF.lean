/- consistory/consistorylaw13.ResolveGroups: one case, by its number. -/
import Derived.Test.YtldhpefbemakhaaGreatDoorQ13
import Derived.Test.YtldhpefbemakhaaGreatDoorSymB
namespace Go.Proofs.YtldhpefbemakhaaGreatDoor
open Go.RowKit

namespace Ev
noncomputable section
def groupsF (i : Nat) : Bool := okTrue cx1.call 5 [symU 0 4 (i / 8), symU 10 8 ((i) % 8)]
end
end Ev
end Go.Proofs.YtldhpefbemakhaaGreatDoor
