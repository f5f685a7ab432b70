/-
 Plain facts on digits of 8 bits. tripwireref01: trim, Small. tripwireref01: Large. tripwireref01: Add. tripwireref01: Mul. tripwireref02.Make; tripwireref03.Text.
-/
import Derived.Test.YtikmgoefjbhcjaaGreatDoorMath
import Derived.Test.YtikmgoefjbhcjaaGreatDoorOwn
import Derived.Test.YtikmgoefjbhcjaaGreatDoorDiv
import Derived.Test.YtikmgoefjbhcjaaGreatDoorLimF
import Derived.Test.YtikmgoefjbhcjaaGreatDoorProg
import Derived.Deep.LoopGhost
namespace Go.Proofs.YtikmgoefjbhcjaaGreatDoor

open Go.RowKit

def sgn (neg : Bool) (v : Nat) : Bool := if v = 0 then false else neg
end Go.Proofs.YtikmgoefjbhcjaaGreatDoor
