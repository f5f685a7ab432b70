/-
  ratio: Abs, Sign. whole.Cmp. ratio: Cmp, Same.
-/
import Derived.Test.YtgghdedabpohbaaDoorRG
namespace Go.Proofs.YtgghdedabpohbaaDoor
open Go.RowKit

end Go.Proofs.YtgghdedabpohbaaDoor
namespace Go.Proofs.YtgghdedabpohbaaDoor
open Go.RowKit

end Go.Proofs.YtgghdedabpohbaaDoor
namespace Go.Proofs.YtgghdedabpohbaaDoor
open Go.RowKit

end Go.Proofs.YtgghdedabpohbaaDoor
