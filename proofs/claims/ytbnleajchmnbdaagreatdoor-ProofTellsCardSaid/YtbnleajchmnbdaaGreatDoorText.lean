/-
 Plain facts on decimal texts. strconv.FormatUint at base 10. strings.Builder's WriteString and WriteByte at this program (the kit's contracts, laid by hand: the one command lays neither where the bodies name no type string). digits.Text.
-/
import Derived.Test.YtbnleajchmnbdaaGreatDoorMath
import Derived.Lib.ItoaNum
import Derived.Test.YtbnleajchmnbdaaGreatDoorLimF
import Derived.Lib.ItoaMem
import Derived.Lib.LaidTab
import Derived.Shelf.Strings.Builder1
import Derived.Test.YtbnleajchmnbdaaGreatDoorProg
import Derived.Deep.LoopGhost
namespace Go.Proofs.YtbnleajchmnbdaaGreatDoor

open Go.RowKit Go.Sort

end Go.Proofs.YtbnleajchmnbdaaGreatDoor
namespace Go.Proofs
open Go.Shelf
end Go.Proofs
namespace Go.Proofs.YtbnleajchmnbdaaGreatDoor
open Go.RowKit

end Go.Proofs.YtbnleajchmnbdaaGreatDoor
