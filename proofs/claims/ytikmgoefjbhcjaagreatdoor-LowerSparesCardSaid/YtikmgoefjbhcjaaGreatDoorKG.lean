/-
 Many operations of a drawn region at once: those that are not wanted, moves, picks. tripwireref05.Right. tripwireref04.Same, tripwireref16.Right.
-/
import Derived.Test.YtikmgoefjbhcjaaGreatDoorV18
import Derived.Test.YtikmgoefjbhcjaaGreatDoorKE
import Derived.Test.YtikmgoefjbhcjaaGreatDoorRef11
import Derived.Test.YtikmgoefjbhcjaaGreatDoorSL
import Derived.Test.YtikmgoefjbhcjaaGreatDoorQC
import Derived.Test.YtikmgoefjbhcjaaGreatDoorRQ
namespace Go.Proofs.YtikmgoefjbhcjaaGreatDoor
open Go.RowKit

theorem IntD.uniq {i : IV} {x y : Int} {n m : Nat} {w : World} (h : IntD i x n w) (h' : IntD i y m w) : x = y := by
 obtain ⟨l, hk, hrd, -, hv⟩ := h.ex
 obtain ⟨l', hk', hrd', -, hv'⟩ := h'.ex
 have e : l = l' := zc5 _ _ (by omega) fun t ht => by
  have c1 := hrd.cell t ht
  have c2 := hrd'.cell t (by omega)
  rw [c1] at c2
  have c3 : ((nth l t : Nat) : Int) = ((nth l' t : Nat) : Int) := by simpa using c2
  omega
 rw [← hv, ← hv', e]
theorem RatD.uniq {r : RV} {p q : Rat} {n m : Nat} {w : World} (h : RatD r p n w) (h' : RatD r q m w) : p = q := by
 obtain ⟨x, d, hx, hd, e⟩ := h.ex
 obtain ⟨x', d', hx', hd', e'⟩ := h'.ex
 rw [e, e', hx.uniq hx', hd.uniq hd']
theorem RatN.someD {r : RV} {q : Rat} {w : World} (h : RatN r q w) : ∃ n, RatD r q n w :=
 ⟨q.num.natAbs + q.den, h.rat ⟨Nat.lt_of_lt_of_le (Nat.lt_pow_self (by decide)) (Nat.pow_le_pow_right (by decide) (Nat.le_add_right _ _)), Nat.lt_of_lt_of_le (Nat.lt_pow_self (by decide)) (Nat.pow_le_pow_right (by decide) (Nat.le_add_left _ _))⟩⟩
theorem RatN.uniq {r : RV} {p q : Rat} {n : Nat} {w : World} (h : RatD r p n w) (h' : RatN r q w) : p = q := by
 obtain ⟨m, hm⟩ := h'.someD
 exact h.uniq hm
end Go.Proofs.YtikmgoefjbhcjaaGreatDoor
