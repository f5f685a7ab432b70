/-
 tripwireref04: Norm, Neg, Sign, Add, Mul, Quo, Cmp.
-/
import Derived.Test.YtikmgoefjbhcjaaGreatDoorRef10
namespace Go.Proofs.YtikmgoefjbhcjaaGreatDoor
open Go.RowKit

theorem RatD.parts {r : RV} {q : Rat} {n : Nat} {w : World} (h : RatD r q n w) : ∃ x y, IntD r.num x n w ∧ IntD r.den y n w ∧ Rat.divInt (ptN r x y) (ptD r y) = q := by
 obtain ⟨x, y, hx, hy, hq⟩ := h.ex
 exact ⟨x, y, hx, hy, by rw [zmK, hq]⟩
end Go.Proofs.YtikmgoefjbhcjaaGreatDoor
