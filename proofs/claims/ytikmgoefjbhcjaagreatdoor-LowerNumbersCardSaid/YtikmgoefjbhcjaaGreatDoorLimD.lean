/-
 limbs: Mul.
-/
import Derived.Test.YtikmgoefjbhcjaaGreatDoorLimC
import Derived.Test.YtikmgoefjbhcjaaGreatDoorShelf
namespace Go.Proofs.YtikmgoefjbhcjaaGreatDoor
open Go.RowKit

theorem wrap_u64 (a b : Nat) (h : a + b < B64) : IntKind.u64.wrap ((a : Int) + (b : Int)) = ((a + b : Nat) : Int) := by
 simp only [B64] at h
 rw [IntKind.wrap_u64]
 omega

theorem zbf (n j : Nat) : nth (List.replicate n 0) j = 0 := by
 by_cases h : j < n <;> simp [nth, List.getD, h]

theorem zdk (x y : Nat) (hx : x < B64) (hy : y < B64) (w : World) :
 Calls Tryz.prog 180 #[.int .u64 x, .int .u64 y] w fun e w' => e = .returned (.tuple #[.int .u64 ((x * y / B64 : Nat) : Int), .int .u64 ((x * y % B64 : Nat) : Int)]) ∧ w' = w :=
 Tryz.bits_Mul64 x y hx hy w
theorem zcl (x y : Nat) (w : World) :
 (callFunc 194 #[.int .u64 x, .int .u64 y, .int .u64 0]).run Tryz.prog w =
  .ok (.value (.tuple #[.int .u64 (((x + y) % B64 : Nat) : Int), .int .u64 (((x + y) / B64 : Nat) : Int)])) w := zbq x y 0 (by omega) w

end Go.Proofs.YtikmgoefjbhcjaaGreatDoor
