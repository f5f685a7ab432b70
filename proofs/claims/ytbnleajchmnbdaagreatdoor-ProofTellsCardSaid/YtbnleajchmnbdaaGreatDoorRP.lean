/-
 tripwirelow: SameInt, SameRat (under way). tripwirelow: SameRat.
-/
import Derived.Test.YtbnleajchmnbdaaGreatDoorQC
import Derived.Test.YtbnleajchmnbdaaGreatDoorLowB
namespace Go.Proofs.YtbnleajchmnbdaaGreatDoor
open Go.RowKit

end Go.Proofs.YtbnleajchmnbdaaGreatDoor
