/-
  tripwirelaw04: is, awake; tripwirelow.ShortRat, tripwirelaw04.short.
-/
import Derived.Test.YtcinoicpibleoaaGreatDoorQP
import Derived.Deep.DeepMust
namespace Go.Proofs.YtcinoicpibleoaaGreatDoor
open Go.RowKit

set_option maxRecDepth 100000 in
set_option maxHeartbeats 1000000 in
theorem shortRat_one (w : World) (r : RV) (m : Nat) (h1 : ¬ r.num.k ≤ m) :
    Calls Tryz.prog 12 #[.agg #[.bool r.num.neg, .slice r.num.A r.num.k r.num.c, .bool r.den.neg, .slice r.den.A r.den.k r.den.c], .int .i64 (m : Int)] w fun e w' => e = .returned (.bool false) ∧ Below w.heap.size w w' := by
  have HB := Lib.hid (Below.of_alloc w (.cells #[.bool r.num.neg, .slice r.num.A r.num.k r.num.c, .bool r.den.neg, .slice r.den.A r.den.k r.den.c] 31))
  have e1 : decide (r.num.k ≤ m) = false := by simp; omega
  clear h1
  go_enter Tryz.func12, Tryz.ntmps12
  go_wp2_with fail
  go_ret
  exact ⟨rfl, HB.out⟩

set_option maxRecDepth 100000 in
set_option maxHeartbeats 1000000 in
theorem shortRat_two (w : World) (r : RV) (m : Nat) (h1 : r.num.k ≤ m) (h2 : ¬ r.den.k ≤ m) :
    Calls Tryz.prog 12 #[.agg #[.bool r.num.neg, .slice r.num.A r.num.k r.num.c, .bool r.den.neg, .slice r.den.A r.den.k r.den.c], .int .i64 (m : Int)] w fun e w' => e = .returned (.bool false) ∧ Below w.heap.size w w' := by
  have HB := Lib.hid (Below.of_alloc w (.cells #[.bool r.num.neg, .slice r.num.A r.num.k r.num.c, .bool r.den.neg, .slice r.den.A r.den.k r.den.c] 31))
  have e1 : decide (r.num.k ≤ m) = true := by simp; omega
  have e2 : decide (r.den.k ≤ m) = false := by simp; omega
  clear h2
  clear h1
  go_enter Tryz.func12, Tryz.ntmps12
  go_wp2_with fail
  go_ret
  exact ⟨rfl, HB.out⟩

set_option maxRecDepth 100000 in
set_option maxHeartbeats 1000000 in
theorem shortRat_yes (w : World) (r : RV) (m : Nat) (h1 : r.num.k ≤ m) (h2 : r.den.k ≤ m) :
    Calls Tryz.prog 12 #[.agg #[.bool r.num.neg, .slice r.num.A r.num.k r.num.c, .bool r.den.neg, .slice r.den.A r.den.k r.den.c], .int .i64 (m : Int)] w fun e w' => e = .returned (.bool true) ∧ Below w.heap.size w w' := by
  have HB := Lib.hid (Below.of_alloc w (.cells #[.bool r.num.neg, .slice r.num.A r.num.k r.num.c, .bool r.den.neg, .slice r.den.A r.den.k r.den.c] 31))
  have e1 : decide (r.num.k ≤ m) = true := by simp; omega
  have e2 : decide (r.den.k ≤ m) = true := by simp; omega
  clear h2
  clear h1
  go_enter Tryz.func12, Tryz.ntmps12
  go_wp2_with fail
  go_ret
  exact ⟨rfl, HB.out⟩

/-- is a fraction a short one? -/
def shortR (r : RV) (m : Nat) : Bool := decide (r.num.k ≤ m) && decide (r.den.k ≤ m)
theorem shortRat_any (w : World) (r : RV) (m : Nat) :
    Calls Tryz.prog 12 #[.agg #[.bool r.num.neg, .slice r.num.A r.num.k r.num.c, .bool r.den.neg, .slice r.den.A r.den.k r.den.c], .int .i64 (m : Int)] w fun e w' => e = .returned (.bool (shortR r m)) ∧ Below w.heap.size w w' := by
  unfold shortR
  by_cases h1 : r.num.k ≤ m
  · by_cases h2 : r.den.k ≤ m
    · rw [decide_eq_true h1, decide_eq_true h2]; exact shortRat_yes w r m h1 h2
    · rw [decide_eq_true h1, decide_eq_false h2]; exact shortRat_two w r m h1 h2
  · rw [decide_eq_false h1]; exact shortRat_one w r m h1

@[go_sem] theorem field_den (W : World) (a b c d : Value) : (Instr.field 31 (.agg #[a, b, c, d]) 1).run Tryz.prog W = .ok (.agg #[c, d]) W := by kernel_rfl
@[go_sem] theorem field_abs (W : World) (c d : Value) : (Instr.field 29 (.agg #[c, d]) 1).run Tryz.prog W = .ok d W := by kernel_rfl
end Go.Proofs.YtcinoicpibleoaaGreatDoor
