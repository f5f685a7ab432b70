/-
 The plain law of places: a rising list of all places. tripwireref05.Get. tripwireref05.Places. tripwireref05.put, Norm. ref05.sameWords.
-/
import Derived.Test.YtikmgoefjbhcjaaGreatDoorV18
import Derived.Test.YtikmgoefjbhcjaaGreatDoorRef11
import Derived.Test.YtikmgoefjbhcjaaGreatDoorSL
import Derived.Test.YtikmgoefjbhcjaaGreatDoorQC
import Derived.Test.YtikmgoefjbhcjaaGreatDoorRQ
import Derived.Test.YtikmgoefjbhcjaaGreatDoorLowB
namespace Go.Proofs.YtikmgoefjbhcjaaGreatDoor
open Go.RowKit

theorem zaF (w : World) : (sizeOf (Tryz.prog.elem 46)).run Tryz.prog w = .ok 1 w := by kernel_rfl
theorem zcf : Tryz.prog.underlying 46 = some (.slice 3) := by kernel_rfl
def ic (p : Int) : Array Value := #[.int .i64 p]
theorem El.ic {w : World} {A : Option Addr} {P : List Int} (h : El w 1 A (P.map ic)) (i : Nat) (hi : i < P.length) : w.cell? (adr A i) = some (.int .i64 P[i]) := by
 have hc := h.cell i (by simpa using hi) 0 (by decide)
 rw [Nat.mul_one, Nat.add_zero, List.getElem_map] at hc
 exact hc
theorem GL.after {w W W' : World} {ls : List Ow} {bs : List Bo} {old new old' new' : World → Prop} (h : GL w ls old new W) (he : Env W bs old' new' W') : GL w ls old new W' :=
 (h.keep (ψ := fun _ => True) (Rests.pure trivial _ _) he.bel).imp (fun _ h => h) (fun _ h => h.2)
