/-
 tripwireref10: sameWords, Formed, side. tripwireref10.Pictures. tripwireref10.Behind. tripwireref10.Behind: Relu, Pool, the rest. tripwireref10.Behind: Pool; the whole. tripwireref10.Check.
-/
import Derived.Test.YtikmgoefjbhcjaaGreatDoorNH
import Derived.Test.YtikmgoefjbhcjaaGreatDoorKG
namespace Go.Proofs.YtikmgoefjbhcjaaGreatDoor
open Go.RowKit

structure LaT (l : LaV) : Prop extends LaS l where
 row1 : ∀ v ∈ l.rows, v.ts.length ≤ 100
structure NeT (f : NeV) : Prop where
 n : f.las.length ≤ 100000
 la : ∀ l ∈ f.las, LaT l
theorem NeT.s {f : NeV} (h : NeT f) : NeS f := ⟨h.n, fun l hl => (h.la l hl).toLaS⟩
end Go.Proofs.YtikmgoefjbhcjaaGreatDoor
