/-
 Fractions: how long what is told of them can be; SameRat; what a law's walk keeps. What a law over three fractions keeps at each of its steps.
-/
import Derived.Test.YtikmgoefjbhcjaaGreatDoorQC
import Derived.Test.YtikmgoefjbhcjaaGreatDoorLowB
import Derived.Test.YtikmgoefjbhcjaaGreatDoorText
namespace Go.Proofs.YtikmgoefjbhcjaaGreatDoor
open Go.RowKit

theorem zfU {x n m : Nat} (h : x < B64 ^ n) (hm : n ≤ m) : x < B64 ^ m := Nat.lt_of_lt_of_le h (Nat.pow_le_pow_right za0 hm)
theorem Sz.up {q : Rat} {n m : Nat} (h : Sz q n) (hm : n ≤ m) : Sz q m := ⟨zfU h.1 hm, zfU h.2 hm⟩
theorem zk6 {x d : Int} {n : Nat} (hd : 0 < d) (hx : x.natAbs < B64 ^ n) (h : d.natAbs < B64 ^ n) : Sz (Rat.divInt x d) n := by
 obtain ⟨a, b⟩ := zfx (x := x) hd
 refine ⟨?_, ?_⟩
 ·rw [a]; exact Nat.lt_of_le_of_lt (Int.natAbs_ediv_le_natAbs _ _) hx
 ·have h1 : (d / (Nat.gcd x.natAbs d.natAbs : Int)).natAbs ≤ d.natAbs := Int.natAbs_ediv_le_natAbs _ _
  omega
theorem zdS {n : Nat} (h : 1 ≤ n) : 1 < B64 ^ n := zfU (n := 1) (by decide) h
theorem zhJ {x d : Int} {n : Nat} (h1 : 1 ≤ n) (hx : x.natAbs < B64 ^ n) (h : d.natAbs < B64 ^ n) : Sz (Rat.divInt x d) n := by
 rcases Int.lt_trichotomy d 0 with hd | hd | hd
 ·have := zk6 (x := -x) (d := -d) (n := n) (by omega) (by omega) (by omega)
  rw [Rat.neg_divInt_neg] at this
  exact this
 ·subst hd
  rw [Rat.divInt_zero]
  exact ⟨Nat.pow_pos za0, zdS h1⟩
 ·exact zk6 hd hx h
theorem RatD.sz {r : RV} {q : Rat} {n : Nat} {w : World} (h : RatD r q n w) (h1 : 1 ≤ n) : Sz q n := by
 obtain ⟨x, d, hx, hd, hq⟩ := h.ex
 rw [hq]
 split
 ·exact zhJ h1 hx.lt (zdS h1)
 ·exact zhJ h1 hx.lt hd.lt
theorem RatD.mono {r : RV} {q : Rat} {n m : Nat} {w : World} (h : RatD r q n w) (hm : n ≤ m) : RatD r q m w := by
 obtain ⟨x, d, hx, hd, hq⟩ := h.ex
 exact ⟨x, d, hx.mono hm, hd.mono hm, hq⟩
theorem zfC {a b n m : Nat} (h : a < B64 ^ n) (h' : b < B64 ^ m) : a * b < B64 ^ (n + m) := by
 rw [Nat.pow_add]; exact Nat.mul_lt_mul_of_lt_of_lt h h'
theorem Sz.add {a b : Rat} {n m : Nat} (h : Sz a n) (h' : Sz b m) : Sz (a + b) (n + m + 1) := by
 have e : a + b = Rat.divInt (a.num * b.den + b.num * a.den) (a.den * b.den) := by
  have := Rat.divInt_add_divInt a.num b.num (d₁ := a.den) (d₂ := b.den) (by have := a.den_pos; omega) (by have := b.den_pos; omega)
  rw [Rat.num_divInt_den, Rat.num_divInt_den] at this
  exact this
 rw [e]
 have p1 := zfC h.1 h'.2
 have p2 := zfC h'.1 h.2
 have p3 := zfC h.2 h'.2
 rw [Nat.add_comm m n] at p2
 have q1 : (a.num * b.den).natAbs = a.num.natAbs * b.den := by rw [Int.natAbs_mul]; rfl
 have q2 : (b.num * a.den).natAbs = b.num.natAbs * a.den := by rw [Int.natAbs_mul]; rfl
 have q3 : ((a.den : Int) * b.den).natAbs = a.den * b.den := by rw [Int.natAbs_mul]; rfl
 have k : B64 ^ (n + m) * 2 ≤ B64 ^ (n + m + 1) := by rw [Nat.pow_succ]; exact Nat.mul_le_mul_left _ (by decide)
 refine zhJ (by omega) ?_ ?_
 ·have := Int.natAbs_add_le (a.num * b.den) (b.num * a.den)
  omega
 ·rw [q3]; exact zfU p3 (by omega)
theorem Sz.neg {a : Rat} {n : Nat} (h : Sz a n) : Sz (-a) n := ⟨by rw [Rat.neg_num, Int.natAbs_neg]; exact h.1, by rw [Rat.neg_den]; exact h.2⟩
theorem zfA : Sz 0 1 := ⟨by decide, by decide⟩
theorem zk3 (w : World) : RatN zfi 0 w := ⟨(zmo w (fun _ => True)).now, (zmo w (fun _ => True)).now⟩

theorem Tab.old {w : World} (h : Tab w) : Rests w (· < w.heap.size) Tab := ⟨h, fun _ hw => h.block (hw _ h.lt h.lt)⟩
section
variable {w W W' : World} {ra rb rc : RV} {a b c : Rat} {n : Nat}
end

end Go.Proofs.YtikmgoefjbhcjaaGreatDoor
