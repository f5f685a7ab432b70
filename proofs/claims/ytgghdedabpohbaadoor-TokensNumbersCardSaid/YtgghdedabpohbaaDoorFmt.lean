/-
  strconv.FormatUint at base 10.
-/
import Derived.Test.YtgghdedabpohbaaDoorLimF
import Derived.Test.YtgghdedabpohbaaDoorTxt
import Derived.Lib.ItoaMem
import Derived.Lib.LaidTab
namespace Go.Proofs.YtgghdedabpohbaaDoor
open Go.RowKit Go.Sort

end Go.Proofs.YtgghdedabpohbaaDoor
