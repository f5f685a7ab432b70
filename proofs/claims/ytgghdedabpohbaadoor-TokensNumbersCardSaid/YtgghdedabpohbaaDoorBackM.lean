/-
  Plain facts: a number's text is read as that number; a numeral is the text of what it says; a digit more.
-/
import Derived.Test.YtgghdedabpohbaaDoorParB
namespace Go.Proofs.YtgghdedabpohbaaDoor

end Go.Proofs.YtgghdedabpohbaaDoor
