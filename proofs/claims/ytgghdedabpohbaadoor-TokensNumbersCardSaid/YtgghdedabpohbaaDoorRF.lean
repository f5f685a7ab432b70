/-
  ratio: Quo, Neg, Whole, Add, Sub.
-/
import Derived.Test.YtgghdedabpohbaaDoorRE
namespace Go.Proofs.YtgghdedabpohbaaDoor
open Go.RowKit

end Go.Proofs.YtgghdedabpohbaaDoor
