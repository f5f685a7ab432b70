/-
  ratio.Text; tripwirelaw04.is.
-/
import Derived.Test.YtgghdedabpohbaaDoorSL
import Derived.Test.YtgghdedabpohbaaDoorBackM
namespace Go.Proofs.YtgghdedabpohbaaDoor
open Go.RowKit

end Go.Proofs.YtgghdedabpohbaaDoor
