/-
 tripwireref04: Parts, Norm, Add, Mul, Quo, Neg, Sign, Cmp.
-/
import Derived.Test.YtikmgoefjbhcjaaGreatDoorRef4
import Derived.Test.YtikmgoefjbhcjaaGreatDoorEM
namespace Go.Proofs.YtikmgoefjbhcjaaGreatDoor
open Go.RowKit

def ptN (r : RV) (x y : Int) : Int := if r.den.k = 0 then x else if y = 0 then 0 else if y < 0 then -x else x
def ptD (r : RV) (y : Int) : Int := if r.den.k = 0 then 1 else if y = 0 then 1 else if y < 0 then -y else y
theorem zmK (r : RV) (x y : Int) : Rat.divInt (ptN r x y) (ptD r y) = if r.den.k = 0 then Rat.divInt x 1 else Rat.divInt x y := by
 unfold ptN ptD
 split
 ·rfl
 ·split
  ·rename_i h; rw [h]; simp [Rat.divInt_zero]
  ·split
   ·exact Rat.neg_divInt_neg x y
   ·rfl
end Go.Proofs.YtikmgoefjbhcjaaGreatDoor
