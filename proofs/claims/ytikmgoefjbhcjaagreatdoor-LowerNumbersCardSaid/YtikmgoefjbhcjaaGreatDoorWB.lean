/-
 whole: Sign, Cmp, Add, Sub, Of.
-/
import Derived.Test.YtikmgoefjbhcjaaGreatDoorWA
namespace Go.Proofs.YtikmgoefjbhcjaaGreatDoor
set_option maxHeartbeats 1000000
open Go.RowKit

theorem zme {W : World} {i : IV} {z : Int} {n : Nat} (h : IntD i z n W) (hn : n ≤ 900000000000) : ∃ b : Nat, (b = 0 ↔ z = 0) ∧ Calls Tryz.prog 188 #[.slice i.A i.k i.c] W fun e w' => e = .returned (.int .i64 (b : Int)) ∧ W = w' := by
 obtain ⟨l, hk, hr, hx, rfl⟩ := h.ex
 have := h.le
 refine ⟨bitsN l, ?_, by rw [hk]; exact zj0 W i.A i.c l (by omega) hr hx⟩
 rw [zgi hx]
 unfold iv; split <;> omega
theorem IntD.neg_of {i : IV} {z : Int} {n : Nat} {w : World} (h : IntD i z n w) (h0 : z ≠ 0) : i.neg = decide (z < 0) := by
 obtain ⟨l, -, -, -, rfl⟩ := h.ex
 unfold iv at *
 cases i.neg <;> simp_all <;> omega

set_option maxRecDepth 100000 in
theorem zaj (w : World) (i : IV) (z : Int) (n : Nat) (hn : n ≤ 900000000000) (h : IntD i z n w) :
 Calls Tryz.prog 131 #[iA i] w fun e w' => e = .returned (.int .i64 z.sign) ∧ Below w.heap.size w w' := by
 obtain ⟨b, hb0, hbc⟩ := zme (h.old.alloc (.cells #[.bool i.neg, .slice i.A i.k i.c] 39)).now hn
 have Hbc := zmZ hbc
 have Hbel := zmZ (Below.of_alloc w (.cells #[.bool i.neg, .slice i.A i.k i.c] 39))
 by_cases h0 : z = 0
 ·have hq : ((b : Int) == 0) = true := by simp [hb0.2 h0]
  have Hs := zmZ (show z.sign = 0 by rw [h0]; rfl)
  clear h hbc hb0 h0
  unfold iA
  go_enter Tryz.func131, Tryz.ntmps131
  go_wp2_with fail
  refine Hbc.out.mono ?_
  rintro e w' ⟨rfl, rfl⟩
  go_wp2_with fail
  go_ret
  rw [Hs.out]
  exact ⟨rfl, Hbel.out⟩
 ·have hq : ((b : Int) == 0) = false := by have : b ≠ 0 := fun e => h0 (hb0.1 e); simp; omega
  have hneg := h.neg_of h0
  clear h hbc hb0
  by_cases hz : z < 0
  ·have hn' : i.neg = true := by rw [hneg]; simp [hz]
   have Hs := zmZ (Int.sign_eq_neg_one_of_neg hz)
   have Hbel' := zmZ Hbel.out
   clear hneg hz h0
   unfold iA
   go_enter Tryz.func131, Tryz.ntmps131
   go_wp2_with fail
   refine Calls.mono (by rw [← hn']; exact Hbc.out) ?_
   rintro e w' ⟨rfl, rfl⟩
   go_wp2_with fail
   go_ret
   rw [Hs.out]
   exact ⟨rfl, by rw [← hn']; exact Hbel.out⟩
  ·have hn' : i.neg = false := by rw [hneg]; simp [hz]
   have Hs := zmZ (Int.sign_eq_one_of_pos (a := z) (by omega))
   clear hneg hz h0
   unfold iA
   go_enter Tryz.func131, Tryz.ntmps131
   go_wp2_with fail
   refine Calls.mono (by rw [← hn']; exact Hbc.out) ?_
   rintro e w' ⟨rfl, rfl⟩
   go_wp2_with fail
   go_ret
   rw [Hs.out]
   exact ⟨rfl, by rw [← hn']; exact Hbel.out⟩

end Go.Proofs.YtikmgoefjbhcjaaGreatDoor
