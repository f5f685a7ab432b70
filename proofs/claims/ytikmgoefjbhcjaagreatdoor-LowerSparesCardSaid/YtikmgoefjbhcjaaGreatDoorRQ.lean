/-
 Plain laws of fractions: the order by the sign of a difference; ends; the whole numbers next to a fraction. ratio: Ceil.
-/
import Derived.Test.YtikmgoefjbhcjaaGreatDoorQC
import Derived.Deep.DeepMust
import Derived.Deep.DeepCutAuto
namespace Go.Proofs.YtikmgoefjbhcjaaGreatDoor

open Go.RowKit



section
variable {w W W' : World} {g : Nat} {p e : IV} {x d : Int} {n : Nat}
end
theorem z1 {X W' : World} (hb : Below (X.alloc (.cells #[.bool false, .slice none 0 0] 39)).heap.size (X.alloc (.cells #[.bool false, .slice none 0 0] 39)) W') : Blk W' X.heap.size 39 #[.bool false, .slice none 0 0] := (Blk.new X _ _).below hb (by simp)
theorem z2 {X W' : World} (hb : Below ((X.alloc (.cells #[.bool false, .slice none 0 0] 39)).alloc (.cells #[.bool false, .slice none 0 0] 39)).heap.size ((X.alloc (.cells #[.bool false, .slice none 0 0] 39)).alloc (.cells #[.bool false, .slice none 0 0] 39)) W') : Blk W' X.heap.size 39 #[.bool false, .slice none 0 0] ∧ Blk W' (X.heap.size + 1) 39 #[.bool false, .slice none 0 0] :=
 ⟨((Blk.new X _ _).alloc _).below hb (by simp; omega), by have := (Blk.new (X.alloc (.cells #[.bool false, .slice none 0 0] 39)) 39 #[.bool false, .slice none 0 0]).below hb (by simp); simpa using this⟩
end Go.Proofs.YtikmgoefjbhcjaaGreatDoor
