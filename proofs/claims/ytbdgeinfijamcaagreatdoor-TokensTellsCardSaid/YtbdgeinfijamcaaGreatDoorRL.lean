/-
  ratio: Abs, Sign. whole.Cmp. ratio: Cmp, Same. ratio: Div.
-/
import Derived.Test.YtbdgeinfijamcaaGreatDoorRG
namespace Go.Proofs.YtbdgeinfijamcaaGreatDoor
open Go.RowKit

end Go.Proofs.YtbdgeinfijamcaaGreatDoor
namespace Go.Proofs.YtbdgeinfijamcaaGreatDoor
open Go.RowKit

end Go.Proofs.YtbdgeinfijamcaaGreatDoor
namespace Go.Proofs.YtbdgeinfijamcaaGreatDoor
open Go.RowKit

end Go.Proofs.YtbdgeinfijamcaaGreatDoor
namespace Go.Proofs.YtbdgeinfijamcaaGreatDoor
open Go.RowKit

theorem zeroN (w : World) (F : Nat → Prop) : Rests w F (IntN ⟨false, none, 0, 0⟩ 0) :=
  ⟨⟨rfl, Nat.le_refl _, rfl, Rd.nil_ _ _⟩, fun _ _ => ⟨rfl, Nat.le_refl _, rfl, Rd.nil_ _ _⟩⟩
def zeroR : RV := ⟨⟨false, none, 0, 0⟩, ⟨false, none, 0, 0⟩⟩
def RetRE (q : Rat) (k : Int) (w : World) (e : Ending) (w' : World) : Prop :=
  ∃ r : RV, e = .returned (.tuple #[.agg #[.bool r.num.neg, .slice r.num.A r.num.k r.num.c, .bool r.den.neg, .slice r.den.A r.den.k r.den.c], .int .i64 k]) ∧ Rests w' (w.heap.size ≤ ·) (RatN r q) ∧ Below w.heap.size w w'
theorem RetRE.of {q : Rat} {k : Int} {w w' : World} {r : RV} (h : RetR q w (.returned (.agg #[.bool r.num.neg, .slice r.num.A r.num.k r.num.c, .bool r.den.neg, .slice r.den.A r.den.k r.den.c])) w') :
    RetRE q k w (.returned (.tuple #[.agg #[.bool r.num.neg, .slice r.num.A r.num.k r.num.c, .bool r.den.neg, .slice r.den.A r.den.k r.den.c], .int .i64 k])) w' := by
  obtain ⟨r', e, h1, h2⟩ := h
  have e' : r = r' := by
    obtain ⟨⟨a1, a2, a3, a4⟩, ⟨b1, b2, b3, b4⟩⟩ := r
    obtain ⟨⟨c1, c2, c3, c4⟩, ⟨d1, d2, d3, d4⟩⟩ := r'
    simp at e
    simp [e]
  subst e'
  exact ⟨r, rfl, h1, h2⟩

end Go.Proofs.YtbdgeinfijamcaaGreatDoor
