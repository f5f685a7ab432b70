/-
  ratio: Quo, Neg, Whole, Add, Sub.
-/
import Derived.Test.YtbdgeinfijamcaaGreatDoorRE
namespace Go.Proofs.YtbdgeinfijamcaaGreatDoor
open Go.RowKit

end Go.Proofs.YtbdgeinfijamcaaGreatDoor
