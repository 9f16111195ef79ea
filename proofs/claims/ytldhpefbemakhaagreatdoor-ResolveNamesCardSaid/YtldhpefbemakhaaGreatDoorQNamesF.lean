/- consistory/consistorylaw13.ResolveNames: one case, by its number. -/
import Derived.Test.YtldhpefbemakhaaGreatDoorQ13
import Derived.Test.YtldhpefbemakhaaGreatDoorSymB
namespace Go.Proofs.YtldhpefbemakhaaGreatDoor
open Go.RowKit

namespace Ev
noncomputable section
def namesF (i : Nat) : Bool := okTrue cx1.call 3 [symI 0 4 (i / 20), symI 10 5 ((i / 4) % 5), .bool (Nat.beq ((i / 2) % 2) 1), .bool (Nat.beq ((i) % 2) 1)]
end
end Ev
end Go.Proofs.YtldhpefbemakhaaGreatDoor
