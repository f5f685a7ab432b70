/-
 Plain facts: a number's text is read as that number; a numeral is the text of what it says; a digit more.
-/
import Derived.Test.YtikmgoefjbhcjaaGreatDoorText
namespace Go.Proofs.YtikmgoefjbhcjaaGreatDoor

theorem zpj {v k : Nat} (h : v < 10 ^ k) (hk : 0 < k) : (Lib.decDigits v).length ≤ k := by
 induction k generalizing v with
 | zero => omega
 | succ k ih =>
  by_cases h10 : v < 10
  ·rw [Lib.decDigits_one h10]; simp
  ·rw [zoL h10]
   rcases Nat.eq_zero_or_pos k with rfl | hk'
   ·simp at h; omega
   ·have := ih (v := v / 10) (by rw [Nat.pow_succ] at h; omega) hk'
    simp; omega
end Go.Proofs.YtikmgoefjbhcjaaGreatDoor
