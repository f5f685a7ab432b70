/-
 The plain law of places: a rising list of all places. tripwireref05.Get. tripwireref05.Places. tripwireref05.put, Norm. ref05.sameWords.
-/
import Derived.Test.YtbnleajchmnbdaaGreatDoorV18
import Derived.Test.YtbnleajchmnbdaaGreatDoorMath
import Derived.Test.YtbnleajchmnbdaaGreatDoorOwn
import Derived.Test.YtbnleajchmnbdaaGreatDoorDiv
import Derived.Test.YtbnleajchmnbdaaGreatDoorLimF
import Derived.Test.YtbnleajchmnbdaaGreatDoorProg
import Derived.Test.YtbnleajchmnbdaaGreatDoorLimE
import Derived.Test.YtbnleajchmnbdaaGreatDoorVal
import Derived.Test.YtbnleajchmnbdaaGreatDoorGcdM
import Derived.Test.YtbnleajchmnbdaaGreatDoorWE
import Derived.Test.YtbnleajchmnbdaaGreatDoorEM
import Derived.Test.YtbnleajchmnbdaaGreatDoorSL
import Derived.Test.YtbnleajchmnbdaaGreatDoorQC
import Derived.Test.YtbnleajchmnbdaaGreatDoorV12
import Derived.Test.YtbnleajchmnbdaaGreatDoorLowB
namespace Go.Proofs.YtbnleajchmnbdaaGreatDoor
open Go.RowKit

theorem GL.after {w W W' : World} {ls : List Ow} {bs : List Bo} {old new old' new' : World → Prop} (h : GL w ls old new W) (he : Env W bs old' new' W') : GL w ls old new W' :=
 (h.keep (ψ := fun _ => True) (Rests.pure trivial _ _) he.bel).imp (fun _ h => h) (fun _ h => h.2)
theorem vs2 {n g : Nat} {A : Option Addr} {c : Nat} {ts : List TeV} {W : World} {t : TypeId} (h : Blk W g t #[.slice none 0 0, .slice A ts.length c]) (ht : LsR 5 tecells (teD n) A ts W) : LsR 1 vecells (veD n) (some ⟨g, 0, none⟩) [⟨none, 0, []⟩, ⟨A, c, ts⟩] W := by
 refine ⟨⟨Sl.some_ _ _ _, fun i hi => ?_, fun i hi j hj => ?_⟩, fun p hp => ?_⟩
 ·match i, hi with
  | 0, _ => rfl
  | 1, _ => rfl
 ·obtain rfl : j = 0 := by omega
  rw [adr_some]
  match i, hi with
  | 0, _ => exact h.cell 0
  | 1, _ => exact h.cell 1
 ·simp only [List.mem_cons, List.not_mem_nil, or_false] at hp
  rcases hp with rfl | rfl
  ·exact LsR.nil_ none
  ·exact ht
