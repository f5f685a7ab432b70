/-
  ratio: Whole, both, Add, Sub.
-/
import Derived.Test.YtbdgeinfijamcaaGreatDoorRF
namespace Go.Proofs.YtbdgeinfijamcaaGreatDoor
open Go.RowKit

end Go.Proofs.YtbdgeinfijamcaaGreatDoor
