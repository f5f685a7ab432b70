/-
 tripwireref02: Norm, Neg. tripwireref02: Mul, Gcd. tripwireref02: Mul.
-/
import Derived.Test.YtikmgoefjbhcjaaGreatDoorRefE
import Derived.Test.YtikmgoefjbhcjaaGreatDoorRefG
import Derived.Test.YtikmgoefjbhcjaaGreatDoorWE
namespace Go.Proofs.YtikmgoefjbhcjaaGreatDoor
open Go.RowKit

section
variable {w : World} {g : Nat} {a b u0 u1 : Value} {t : TypeId}
def put2 (w : World) (g : Nat) (a b : Value) : World := (w.setCell ⟨g, 0, none⟩ a).setCell ⟨g, 1, none⟩ b
end

end Go.Proofs.YtikmgoefjbhcjaaGreatDoor
