/-
 Plain laws of fractions: the order by the sign of a difference; ends; the whole numbers next to a fraction. ratio: Ceil.
-/
import Derived.Test.YtbnleajchmnbdaaGreatDoorQC
import Derived.Deep.DeepMust
import Derived.Deep.DeepCutAuto
namespace Go.Proofs.YtbnleajchmnbdaaGreatDoor

def sg (q : Rat) : Int := q.num.sign
theorem cmp_sg (a b : Rat) : cmpQ a b = sg (a - b) := by
 have ha : 0 < (a.den : Int) := Int.natCast_pos.2 a.den_pos
 have hb : 0 < (b.den : Int) := Int.natCast_pos.2 b.den_pos
 have e : a - b = Rat.divInt (a.num * b.den - b.num * a.den) (a.den * b.den) := by
  have := Rat.divInt_sub_divInt a.num b.num (d₁ := a.den) (d₂ := b.den) (by omega) (by omega)
  rw [Rat.num_divInt_den, Rat.num_divInt_den] at this
  exact this
 rw [cmpQ_num, cmpZ_sign]
 exact (num_sign (Int.mul_pos ha hb) e).symm
open Go.RowKit



section
variable {w W W' : World} {g : Nat} {p e : IV} {x d : Int} {n : Nat}
end
theorem z1 {X W' : World} (hb : Below (X.alloc (.cells #[.bool false, .slice none 0 0] 31)).heap.size (X.alloc (.cells #[.bool false, .slice none 0 0] 31)) W') : Blk W' X.heap.size 31 #[.bool false, .slice none 0 0] := (Blk.new X _ _).below hb (by simp)
theorem z2 {X W' : World} (hb : Below ((X.alloc (.cells #[.bool false, .slice none 0 0] 31)).alloc (.cells #[.bool false, .slice none 0 0] 31)).heap.size ((X.alloc (.cells #[.bool false, .slice none 0 0] 31)).alloc (.cells #[.bool false, .slice none 0 0] 31)) W') : Blk W' X.heap.size 31 #[.bool false, .slice none 0 0] ∧ Blk W' (X.heap.size + 1) 31 #[.bool false, .slice none 0 0] :=
 ⟨((Blk.new X _ _).alloc _).below hb (by simp; omega), by have := (Blk.new (X.alloc (.cells #[.bool false, .slice none 0 0] 31)) 31 #[.bool false, .slice none 0 0]).below hb (by simp); simpa using this⟩
end Go.Proofs.YtbnleajchmnbdaaGreatDoor
