/-
  Plain facts on decimal texts.
-/
import Derived.Test.YtgghdedabpohbaaDoorMath
import Derived.Lib.ItoaNum
namespace Go.Proofs.YtgghdedabpohbaaDoor

end Go.Proofs.YtgghdedabpohbaaDoor
