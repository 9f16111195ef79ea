/- consistory/consistorylaw13.ResolveTypes: one case, by its number. -/
import Derived.Test.YtldhpefbemakhaaGreatDoorQ13
import Derived.Test.YtldhpefbemakhaaGreatDoorSymB
namespace Go.Proofs.YtldhpefbemakhaaGreatDoor
open Go.RowKit

namespace Ev
noncomputable section
def typesF (i : Nat) : Bool := okTrue cx1.call 7 [symI 0 14 (i / 16), symI 10 4 ((i / 4) % 4), symI 20 4 ((i) % 4)]
end
end Ev
end Go.Proofs.YtldhpefbemakhaaGreatDoor
