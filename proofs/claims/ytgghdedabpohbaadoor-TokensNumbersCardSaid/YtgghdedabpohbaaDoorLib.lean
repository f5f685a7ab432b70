/-
  strings.Builder's WriteString and WriteByte at this program (the kit's contracts, laid by hand: the one command lays neither where the bodies name no type string).
-/
import Derived.Shelf.Strings.Builder1
import Derived.Test.YtgghdedabpohbaaDoorProg
namespace Go.Proofs
open Go.Shelf
end Go.Proofs
