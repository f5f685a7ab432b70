/-
  ratio: Whole, both, Add, Sub.
-/
import Derived.Test.YtgghdedabpohbaaDoorRF
namespace Go.Proofs.YtgghdedabpohbaaDoor
open Go.RowKit

end Go.Proofs.YtgghdedabpohbaaDoor
