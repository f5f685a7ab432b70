/-
 whole: Sign, Cmp, Add, Sub, Of.
-/
import Derived.Test.YtplhmeiciiajcaaGreatDoorWA
namespace Go.Proofs.YtplhmeiciiajcaaGreatDoor
set_option maxHeartbeats 4000000
open Go.RowKit

theorem bits_i {W : World} {i : IV} {z : Int} {n : Nat} (h : IntD i z n W) (hn : n ≤ 900000000000) : ∃ b : Nat, (b = 0 ↔ z = 0) ∧ Calls Tryz.prog 76 #[.slice i.A i.k i.c] W fun e w' => e = .returned (.int .i64 (b : Int)) ∧ W = w' := by
 obtain ⟨l, hk, hr, hx, rfl⟩ := h.ex
 have := h.le
 refine ⟨bitsN l, ?_, by rw [hk]; exact bits_any W i.A i.c l (by omega) hr hx⟩
 rw [bitsN_zero hx]
 unfold iv; split <;> omega
theorem IntD.neg_of {i : IV} {z : Int} {n : Nat} {w : World} (h : IntD i z n w) (h0 : z ≠ 0) : i.neg = decide (z < 0) := by
 obtain ⟨l, -, -, -, rfl⟩ := h.ex
 unfold iv at *
 cases i.neg <;> simp_all <;> omega

set_option maxRecDepth 100000 in
theorem wsign_any (w : World) (i : IV) (z : Int) (n : Nat) (hn : n ≤ 900000000000) (h : IntD i z n w) :
 Calls Tryz.prog 42 #[iA i] w fun e w' => e = .returned (.int .i64 z.sign) ∧ Below w.heap.size w w' := by
 obtain ⟨b, hb0, hbc⟩ := bits_i (h.old.alloc (.cells #[.bool i.neg, .slice i.A i.k i.c] 28)).now hn
 have Hbc := Lib.hid hbc
 have Hbel := Lib.hid (Below.of_alloc w (.cells #[.bool i.neg, .slice i.A i.k i.c] 28))
 by_cases h0 : z = 0
 ·have hq : ((b : Int) == 0) = true := by simp [hb0.2 h0]
  have Hs := Lib.hid (show z.sign = 0 by rw [h0]; rfl)
  clear h hbc hb0 h0
  unfold iA
  go_enter Tryz.func42, Tryz.ntmps42
  go_wp2_with fail
  refine Hbc.out.mono ?_
  rintro e w' ⟨rfl, rfl⟩
  go_wp2_with fail
  go_ret
  rw [Hs.out]
  exact ⟨rfl, Hbel.out⟩
 ·have hq : ((b : Int) == 0) = false := by have : b ≠ 0 := fun e => h0 (hb0.1 e); simp; omega
  have hneg := h.neg_of h0
  clear h hbc hb0
  by_cases hz : z < 0
  ·have hn' : i.neg = true := by rw [hneg]; simp [hz]
   have Hs := Lib.hid (Int.sign_eq_neg_one_of_neg hz)
   have Hbel' := Lib.hid Hbel.out
   clear hneg hz h0
   unfold iA
   go_enter Tryz.func42, Tryz.ntmps42
   go_wp2_with fail
   refine Calls.mono (by rw [← hn']; exact Hbc.out) ?_
   rintro e w' ⟨rfl, rfl⟩
   go_wp2_with fail
   go_ret
   rw [Hs.out]
   exact ⟨rfl, by rw [← hn']; exact Hbel.out⟩
  ·have hn' : i.neg = false := by rw [hneg]; simp [hz]
   have Hs := Lib.hid (Int.sign_eq_one_of_pos (a := z) (by omega))
   clear hneg hz h0
   unfold iA
   go_enter Tryz.func42, Tryz.ntmps42
   go_wp2_with fail
   refine Calls.mono (by rw [← hn']; exact Hbc.out) ?_
   rintro e w' ⟨rfl, rfl⟩
   go_wp2_with fail
   go_ret
   rw [Hs.out]
   exact ⟨rfl, by rw [← hn']; exact Hbel.out⟩

set_option maxRecDepth 100000 in
theorem below_any (w : World) (i : IV) (z : Int) (n : Nat) (hn : n ≤ 900000000000) (h : IntD i z n w) :
 Calls Tryz.prog 113 #[iA i] w fun e w' => e = .returned (.bool (decide (z < 0))) ∧ Below w.heap.size w w' := by
 have Hc := Lib.hid (wsign_any (w.alloc (.cells #[.bool i.neg, .slice i.A i.k i.c] 28)) i z n hn (h.old.alloc (.cells #[.bool i.neg, .slice i.A i.k i.c] 28)).now)
 have Hbel := Lib.hid (Below.of_alloc w (.cells #[.bool i.neg, .slice i.A i.k i.c] 28))
 have Hs := Lib.hid (show decide (z.sign < 0) = decide (z < 0) from decide_eq_decide.2 Int.sign_neg_iff)
 clear h
 unfold iA
 go_enter Tryz.func113, Tryz.ntmps113
 go_wp2_with fail
 refine Hc.out.mono ?_
 rintro e w1 ⟨rfl, hb1⟩
 have Hb1 := Lib.hid (Below.after Hbel.out hb1)
 clear hb1
 generalize z.sign = s at *
 go_wp2_with fail
 go_ret
 rw [← Hs.out]
 exact ⟨rfl, Hb1.out⟩

theorem below_t (w : World) (i : IV) (z : Int) (n : Nat) (hn : n ≤ 900000000000) (hz : z < 0) (h : IntD i z n w) :
 Calls Tryz.prog 113 #[iA i] w fun e w' => e = .returned (.bool true) ∧ Below w.heap.size w w' := by
 have := below_any w i z n hn h; rw [decide_eq_true hz] at this; exact this
theorem below_f (w : World) (i : IV) (z : Int) (n : Nat) (hn : n ≤ 900000000000) (hz : 0 ≤ z) (h : IntD i z n w) :
 Calls Tryz.prog 113 #[iA i] w fun e w' => e = .returned (.bool false) ∧ Below w.heap.size w w' := by
 have := below_any w i z n hn h; rw [decide_eq_false (by omega)] at this; exact this
theorem add_i {W : World} {i j : IV} {z y : Int} {n m : Nat} (h : IntD i z n W) (h' : IntD j y m W) (hn : n ≤ 900000000000) (hm : m ≤ 900000000000) : Calls Tryz.prog 114 #[.slice i.A i.k i.c, .slice j.A j.k j.c] W (RetL .u64 (digs B64 (z.natAbs + y.natAbs)) W) := by
 obtain ⟨l, hk, hr, hx, rfl⟩ := h.ex
 obtain ⟨l', hk', hr', hx', rfl⟩ := h'.ex
 have := h.le; have := h'.le
 rw [hk, hk', iv_natAbs, iv_natAbs]
 exact add_any W i.A j.A i.c j.c l l' (by omega) (by omega) hr hr' hx hx'
theorem sub_i {W : World} {i j : IV} {z y : Int} {n m : Nat} (h : IntD i z n W) (h' : IntD j y m W) (hn : n ≤ 900000000000) (hm : m ≤ 900000000000) : Calls Tryz.prog 115 #[.slice i.A i.k i.c, .slice j.A j.k j.c] W (RetL .u64 (digs B64 (z.natAbs - y.natAbs)) W) := by
 obtain ⟨l, hk, hr, hx, rfl⟩ := h.ex
 obtain ⟨l', hk', hr', hx', rfl⟩ := h'.ex
 have := h.le; have := h'.le
 rw [hk, hk', iv_natAbs, iv_natAbs]
 exact sub_any W i.A j.A i.c j.c l l' (by omega) (by omega) hr hr' hx hx'
theorem cmp_i {W : World} {i j : IV} {z y : Int} {n m : Nat} (h : IntD i z n W) (h' : IntD j y m W) (hn : n ≤ 900000000000) (hm : m ≤ 900000000000) : Calls Tryz.prog 109 #[.slice i.A i.k i.c, .slice j.A j.k j.c] W fun e w' => e = .returned (.int .i64 (cmpN z.natAbs y.natAbs)) ∧ ∃ q, w' = W.drewN q := by
 obtain ⟨l, hk, hr, hx, rfl⟩ := h.ex
 obtain ⟨l', hk', hr', hx', rfl⟩ := h'.ex
 have := h.le; have := h'.le
 rw [hk, hk', iv_natAbs, iv_natAbs]
 exact cmp_any W i.A j.A i.c j.c l l' (by omega) (by omega) hr hr' hx hx'

set_option maxRecDepth 100000 in
theorem wadd_tt (w : World) (i j : IV) (z y : Int) (n m : Nat) (hn : n ≤ 900000000000) (hm : m ≤ 900000000000) (h : IntD i z n w) (h' : IntD j y m w) (hz0 : z < 0) (hy0 : y < 0) :
 Calls Tryz.prog 72 #[iA i, iA j] w (RetZ (z + y) w) := by
 obtain ⟨W0, hW0⟩ : ∃ W0, W0 = (((w.alloc (.cells #[.bool i.neg, .slice i.A i.k i.c] 28)).alloc (.cells #[.bool j.neg, .slice j.A j.k j.c] 28)).alloc (.cells #[.bool false, .slice none 0 0] 28)) := ⟨_, rfl⟩
 obtain ⟨p0, p1, p2, pb⟩ := lay3 hW0
 have HBa := Lib.hid p0
 have HBb := Lib.hid p1
 have HBr := Lib.hid p2
 have Hbel := Lib.hid pb
 have Hi := Lib.hid (Rests.al3 (h.old) hW0)
 have Hj := Lib.hid (Rests.al3 (h'.old) hW0)
 clear p0 p1 p2 pb
 subst hW0
 have ne01 : w.heap.size ≠ w.heap.size + 1 := by omega
 have ne02 : w.heap.size ≠ w.heap.size + 1 + 1 := by omega
 have ne10 : w.heap.size + 1 ≠ w.heap.size := by omega
 have ne12 : w.heap.size + 1 ≠ w.heap.size + 1 + 1 := by omega
 have ne20 : w.heap.size + 1 + 1 ≠ w.heap.size := by omega
 have ne21 : w.heap.size + 1 + 1 ≠ w.heap.size + 1 := by omega
 clear h h'
 have Hz := Lib.hid hz0
 have Hy := Lib.hid hy0
 clear hz0 hy0
 unfold iA
 go_enter Tryz.func72, Tryz.ntmps72
 go_wp2_with fail
 go_region_held3 (fun W => W.cell? ⟨w.heap.size, 0, none⟩ = some (.bool i.neg) ∧ W.cell? ⟨w.heap.size, 1, none⟩ = some (.slice i.A i.k i.c) ∧ W.cell? ⟨w.heap.size + 1, 0, none⟩ = some (.bool j.neg) ∧ W.cell? ⟨w.heap.size + 1, 1, none⟩ = some (.slice j.A j.k j.c)) (go_keep)
  (first
   | (go_at_call_of 113 (Value.agg #[.bool i.neg, .slice i.A i.k i.c]); go_must (refine (below_t _ i z n hn Hz.out (by first | exact Hi.out.now | exact Hi.out.drew.now)).mono ?_; rintro e w1 ⟨rfl, hbw1⟩; replace HBa := Lib.hid (Blk.below (by exact HBa.out) hbw1 (by exact HBa.out.lt)); obtain ⟨sw1HBa0, sw1HBa1⟩ := Blk.c2 HBa.out; replace HBb := Lib.hid (Blk.below (by exact HBb.out) hbw1 (by exact HBb.out.lt)); obtain ⟨sw1HBb0, sw1HBb1⟩ := Blk.c2 HBb.out; replace HBr := Lib.hid (Blk.below (by exact HBr.out) hbw1 (by exact HBr.out.lt)); obtain ⟨sw1HBr0, sw1HBr1⟩ := Blk.c2 HBr.out; obtain ⟨fw1HBr0, fw1HBr1⟩ := Blk.f2 HBr.out; replace Hi := Lib.hid (Rests.below (φ := IntD i z n) (by first | exact Hi.out | exact Hi.out.drew) hbw1); replace Hj := Lib.hid (Rests.below (φ := IntD j y m) (by first | exact Hj.out | exact Hj.out.drew) hbw1); replace Hbel := Lib.hid (Below.after (by first | exact Hbel.out | exact Below.drew Hbel.out) hbw1); clear hbw1))
   | (go_at_call_of 113 (Value.agg #[.bool j.neg, .slice j.A j.k j.c]); go_must (refine (below_t _ j y m hm Hy.out (by first | exact Hj.out.now | exact Hj.out.drew.now)).mono ?_; rintro e w2 ⟨rfl, hbw2⟩; replace HBa := Lib.hid (Blk.below (by exact HBa.out) hbw2 (by exact HBa.out.lt)); obtain ⟨sw2HBa0, sw2HBa1⟩ := Blk.c2 HBa.out; replace HBb := Lib.hid (Blk.below (by exact HBb.out) hbw2 (by exact HBb.out.lt)); obtain ⟨sw2HBb0, sw2HBb1⟩ := Blk.c2 HBb.out; replace HBr := Lib.hid (Blk.below (by exact HBr.out) hbw2 (by exact HBr.out.lt)); obtain ⟨sw2HBr0, sw2HBr1⟩ := Blk.c2 HBr.out; obtain ⟨fw2HBr0, fw2HBr1⟩ := Blk.f2 HBr.out; replace Hi := Lib.hid (Rests.below (φ := IntD i z n) (by first | exact Hi.out | exact Hi.out.drew) hbw2); replace Hj := Lib.hid (Rests.below (φ := IntD j y m) (by first | exact Hj.out | exact Hj.out.drew) hbw2); replace Hbel := Lib.hid (Below.after (by first | exact Hbel.out | exact Below.drew Hbel.out) hbw2); clear hbw2)))
 all_goals
  go_wp2_with fail
  go_region_held3 (fun W => W.cell? ⟨w.heap.size, 0, none⟩ = some (.bool i.neg) ∧ W.cell? ⟨w.heap.size, 1, none⟩ = some (.slice i.A i.k i.c) ∧ W.cell? ⟨w.heap.size + 1, 0, none⟩ = some (.bool j.neg) ∧ W.cell? ⟨w.heap.size + 1, 1, none⟩ = some (.slice j.A j.k j.c)) (go_keep)
   (first
    | (go_at_call_of 113 (Value.agg #[.bool i.neg, .slice i.A i.k i.c]); go_must (refine (below_t _ i z n hn Hz.out (by first | exact Hi.out.now | exact Hi.out.drew.now)).mono ?_; rintro e w3 ⟨rfl, hbw3⟩; replace HBa := Lib.hid (Blk.below (by exact HBa.out) hbw3 (by exact HBa.out.lt)); obtain ⟨sw3HBa0, sw3HBa1⟩ := Blk.c2 HBa.out; replace HBb := Lib.hid (Blk.below (by exact HBb.out) hbw3 (by exact HBb.out.lt)); obtain ⟨sw3HBb0, sw3HBb1⟩ := Blk.c2 HBb.out; replace HBr := Lib.hid (Blk.below (by exact HBr.out) hbw3 (by exact HBr.out.lt)); obtain ⟨sw3HBr0, sw3HBr1⟩ := Blk.c2 HBr.out; obtain ⟨fw3HBr0, fw3HBr1⟩ := Blk.f2 HBr.out; replace Hi := Lib.hid (Rests.below (φ := IntD i z n) (by first | exact Hi.out | exact Hi.out.drew) hbw3); replace Hj := Lib.hid (Rests.below (φ := IntD j y m) (by first | exact Hj.out | exact Hj.out.drew) hbw3); replace Hbel := Lib.hid (Below.after (by first | exact Hbel.out | exact Below.drew Hbel.out) hbw3); try replace Hr1 := Lib.hid (Rests.below (φ := fun W => Rd W .u64 A1 (digs B64 (z.natAbs + y.natAbs))) (by first | exact Hr1.out | exact Hr1.out.drew) hbw3); clear hbw3))
    | (go_at_call 114; go_must (refine (add_i (i := i) (j := j) (z := z) (y := y) (n := n) (m := m) (by first | exact Hi.out.now | exact Hi.out.drew.now) (by first | exact Hj.out.now | exact Hj.out.drew.now) hn hm).mono ?_; rintro e w4 ⟨A1, c1, rfl, hc1, hr1, hb4, hf1⟩; have hgl := HBr.out.lt; replace HBa := Lib.hid (Blk.below (by exact HBa.out) hb4 (by exact HBa.out.lt)); obtain ⟨sw4HBa0, sw4HBa1⟩ := Blk.c2 HBa.out; replace HBb := Lib.hid (Blk.below (by exact HBb.out) hb4 (by exact HBb.out.lt)); obtain ⟨sw4HBb0, sw4HBb1⟩ := Blk.c2 HBb.out; replace HBr := Lib.hid (Blk.below (by exact HBr.out) hb4 (by exact HBr.out.lt)); obtain ⟨sw4HBr0, sw4HBr1⟩ := Blk.c2 HBr.out; obtain ⟨fw4HBr0, fw4HBr1⟩ := Blk.f2 HBr.out; replace Hi := Lib.hid (Rests.below (φ := IntD i z n) (by first | exact Hi.out | exact Hi.out.drew) hb4); replace Hj := Lib.hid (Rests.below (φ := IntD j y m) (by first | exact Hj.out | exact Hj.out.drew) hb4); replace Hbel := Lib.hid (Below.after (by first | exact Hbel.out | exact Below.drew Hbel.out) hb4); have Hr1 := Lib.hid (rests_rd (F := (w.heap.size + 1 + 1 + 1 ≤ ·)) hr1 (fun k hk => Nat.le_trans hgl (hf1 k hk))); have Hc1 := Lib.hid hc1; clear hr1 hc1 hf1 hgl; clear hb4))
    | (go_at_call 110; go_must (refine (wsigned_any _ _ _ _ _).mono ?_; rintro e w5 ⟨rfl, hb5⟩; replace HBa := Lib.hid (Blk.below (by exact HBa.out) hb5 (by exact HBa.out.lt)); obtain ⟨sw5HBa0, sw5HBa1⟩ := Blk.c2 HBa.out; replace HBb := Lib.hid (Blk.below (by exact HBb.out) hb5 (by exact HBb.out.lt)); obtain ⟨sw5HBb0, sw5HBb1⟩ := Blk.c2 HBb.out; replace HBr := Lib.hid (Blk.below (by exact HBr.out) hb5 (by exact HBr.out.lt)); obtain ⟨sw5HBr0, sw5HBr1⟩ := Blk.c2 HBr.out; obtain ⟨fw5HBr0, fw5HBr1⟩ := Blk.f2 HBr.out; replace Hi := Lib.hid (Rests.below (φ := IntD i z n) (by first | exact Hi.out | exact Hi.out.drew) hb5); replace Hj := Lib.hid (Rests.below (φ := IntD j y m) (by first | exact Hj.out | exact Hj.out.drew) hb5); replace Hr1 := Lib.hid (Rests.below (φ := fun W => Rd W .u64 A1 (digs B64 (z.natAbs + y.natAbs))) (by first | exact Hr1.out | exact Hr1.out.drew) hb5); replace Hbel := Lib.hid (Below.after (by first | exact Hbel.out | exact Below.drew Hbel.out) hb5); clear hb5)))
  all_goals
   go_wp2_with fail
   have hfin := ret_box (z := z + y) (nb := decide (0 < (digs B64 (z.natAbs + y.natAbs)).length)) (g := w.heap.size + 1 + 1) (w2 := w5) Hbel.out (by omega) Hr1.out (fun _ hb => hb) Hc1.out (by have h5 := Hz.out; have h6 := Hy.out; omega) (by have h5 := Hz.out; have h6 := Hy.out; have := sgn_norm true (z.natAbs + y.natAbs); rw [Bool.true_and] at this; rw [this, show iv true (z.natAbs + y.natAbs) = z + y by (simp only [iv, if_true]; omega)])
   obtain ⟨q0, q1⟩ := box2 HBr.out (.bool (decide (0 < (digs B64 (z.natAbs + y.natAbs)).length))) (.slice A1 (digs B64 (z.natAbs + y.natAbs)).length c1)
   clear HBr Hbel Hr1 
   generalize ((w5.setCell ⟨w.heap.size + 1 + 1, 0, none⟩ (.bool (decide (0 < (digs B64 (z.natAbs + y.natAbs)).length)))).setCell ⟨w.heap.size + 1 + 1, 1, none⟩ (.slice A1 (digs B64 (z.natAbs + y.natAbs)).length c1)) = W at *
   exact bodyPost_ret (v := .agg #[.bool (decide (0 < (digs B64 (z.natAbs + y.natAbs)).length)), .slice A1 (digs B64 (z.natAbs + y.natAbs)).length c1]) (by simp [results, Tryz.results72, go_sem, q0, q1]) rfl hfin

set_option maxRecDepth 100000 in
theorem wadd_tf (w : World) (i j : IV) (z y : Int) (n m : Nat) (hn : n ≤ 900000000000) (hm : m ≤ 900000000000) (h : IntD i z n w) (h' : IntD j y m w) (hz0 : z < 0) (hy0 : ¬ y < 0) :
 Calls Tryz.prog 72 #[iA i, iA j] w (RetZ (z + y) w) := by
 obtain ⟨W0, hW0⟩ : ∃ W0, W0 = (((w.alloc (.cells #[.bool i.neg, .slice i.A i.k i.c] 28)).alloc (.cells #[.bool j.neg, .slice j.A j.k j.c] 28)).alloc (.cells #[.bool false, .slice none 0 0] 28)) := ⟨_, rfl⟩
 obtain ⟨p0, p1, p2, pb⟩ := lay3 hW0
 have HBa := Lib.hid p0
 have HBb := Lib.hid p1
 have HBr := Lib.hid p2
 have Hbel := Lib.hid pb
 have Hi := Lib.hid (Rests.al3 (h.old) hW0)
 have Hj := Lib.hid (Rests.al3 (h'.old) hW0)
 clear p0 p1 p2 pb
 subst hW0
 have ne01 : w.heap.size ≠ w.heap.size + 1 := by omega
 have ne02 : w.heap.size ≠ w.heap.size + 1 + 1 := by omega
 have ne10 : w.heap.size + 1 ≠ w.heap.size := by omega
 have ne12 : w.heap.size + 1 ≠ w.heap.size + 1 + 1 := by omega
 have ne20 : w.heap.size + 1 + 1 ≠ w.heap.size := by omega
 have ne21 : w.heap.size + 1 + 1 ≠ w.heap.size + 1 := by omega
 clear h h'
 have Hz := Lib.hid hz0
 have Hy := Lib.hid (Int.not_lt.1 hy0)
 clear hz0 hy0
 unfold iA
 go_enter Tryz.func72, Tryz.ntmps72
 go_wp2_with fail
 go_region_held3 (fun W => W.cell? ⟨w.heap.size, 0, none⟩ = some (.bool i.neg) ∧ W.cell? ⟨w.heap.size, 1, none⟩ = some (.slice i.A i.k i.c) ∧ W.cell? ⟨w.heap.size + 1, 0, none⟩ = some (.bool j.neg) ∧ W.cell? ⟨w.heap.size + 1, 1, none⟩ = some (.slice j.A j.k j.c)) (go_keep)
  (first
   | (go_at_call_of 113 (Value.agg #[.bool i.neg, .slice i.A i.k i.c]); go_must (refine (below_t _ i z n hn Hz.out (by first | exact Hi.out.now | exact Hi.out.drew.now)).mono ?_; rintro e w1 ⟨rfl, hbw1⟩; replace HBa := Lib.hid (Blk.below (by exact HBa.out) hbw1 (by exact HBa.out.lt)); obtain ⟨sw1HBa0, sw1HBa1⟩ := Blk.c2 HBa.out; replace HBb := Lib.hid (Blk.below (by exact HBb.out) hbw1 (by exact HBb.out.lt)); obtain ⟨sw1HBb0, sw1HBb1⟩ := Blk.c2 HBb.out; replace HBr := Lib.hid (Blk.below (by exact HBr.out) hbw1 (by exact HBr.out.lt)); obtain ⟨sw1HBr0, sw1HBr1⟩ := Blk.c2 HBr.out; obtain ⟨fw1HBr0, fw1HBr1⟩ := Blk.f2 HBr.out; replace Hi := Lib.hid (Rests.below (φ := IntD i z n) (by first | exact Hi.out | exact Hi.out.drew) hbw1); replace Hj := Lib.hid (Rests.below (φ := IntD j y m) (by first | exact Hj.out | exact Hj.out.drew) hbw1); replace Hbel := Lib.hid (Below.after (by first | exact Hbel.out | exact Below.drew Hbel.out) hbw1); clear hbw1))
   | (go_at_call_of 113 (Value.agg #[.bool j.neg, .slice j.A j.k j.c]); go_must (refine (below_f _ j y m hm Hy.out (by first | exact Hj.out.now | exact Hj.out.drew.now)).mono ?_; rintro e w2 ⟨rfl, hbw2⟩; replace HBa := Lib.hid (Blk.below (by exact HBa.out) hbw2 (by exact HBa.out.lt)); obtain ⟨sw2HBa0, sw2HBa1⟩ := Blk.c2 HBa.out; replace HBb := Lib.hid (Blk.below (by exact HBb.out) hbw2 (by exact HBb.out.lt)); obtain ⟨sw2HBb0, sw2HBb1⟩ := Blk.c2 HBb.out; replace HBr := Lib.hid (Blk.below (by exact HBr.out) hbw2 (by exact HBr.out.lt)); obtain ⟨sw2HBr0, sw2HBr1⟩ := Blk.c2 HBr.out; obtain ⟨fw2HBr0, fw2HBr1⟩ := Blk.f2 HBr.out; replace Hi := Lib.hid (Rests.below (φ := IntD i z n) (by first | exact Hi.out | exact Hi.out.drew) hbw2); replace Hj := Lib.hid (Rests.below (φ := IntD j y m) (by first | exact Hj.out | exact Hj.out.drew) hbw2); replace Hbel := Lib.hid (Below.after (by first | exact Hbel.out | exact Below.drew Hbel.out) hbw2); clear hbw2)))
 all_goals
  go_wp2_with fail
  refine (cmp_i (i := i) (j := j) (z := z) (y := y) (n := n) (m := m) (by first | exact Hi.out.now | exact Hi.out.drew.now) (by first | exact Hj.out.now | exact Hj.out.drew.now) hn hm).mono ?_
  rintro e w' ⟨rfl, q, rfl⟩
  replace HBa := Lib.hid (HBa.out.drewN q)
  replace HBb := Lib.hid (HBb.out.drewN q)
  replace HBr := Lib.hid (HBr.out.drewN q)
  replace Hi := Lib.hid (Hi.out.drewN q)
  replace Hj := Lib.hid (Hj.out.drewN q)
  replace Hbel := Lib.hid (Below.drewN Hbel.out q)
  have d0 : World.cell? _ ⟨w.heap.size, 0, none⟩ = some (.bool i.neg) := HBa.out.cell 0
  have d1 : World.cell? _ ⟨w.heap.size, 1, none⟩ = some (.slice i.A i.k i.c) := HBa.out.cell 1
  have d2 : World.cell? _ ⟨w.heap.size + 1, 0, none⟩ = some (.bool j.neg) := HBb.out.cell 0
  have d3 : World.cell? _ ⟨w.heap.size + 1, 1, none⟩ = some (.slice j.A j.k j.c) := HBb.out.cell 1
  have e0 : World.frozen? _ ⟨w.heap.size, 0, none⟩ = false := HBa.out.frozen 0
  have e1 : World.frozen? _ ⟨w.heap.size, 1, none⟩ = false := HBa.out.frozen 1
  have e2 : World.frozen? _ ⟨w.heap.size + 1, 0, none⟩ = false := HBb.out.frozen 0
  have e3 : World.frozen? _ ⟨w.heap.size + 1, 1, none⟩ = false := HBb.out.frozen 1
  by_cases hlt : z.natAbs < y.natAbs
  ·have hc : cmpN z.natAbs y.natAbs < 0 := cmpN_neg.2 hlt
   have Hlt := Lib.hid hlt
   clear hlt
   generalize cmpN z.natAbs y.natAbs = cz at *
   replace HBa := Lib.hid (((((((((HBa.out).set_ 0 (.bool j.neg))).set_ 1 (.slice j.A j.k j.c))).far (p := ⟨w.heap.size + 1, 0, none⟩) (by exact ne01) (.bool i.neg))).far (p := ⟨w.heap.size + 1, 1, none⟩) (by exact ne01) (.slice i.A i.k i.c)))
   replace HBb := Lib.hid (((((((((HBb.out).far (p := ⟨w.heap.size, 0, none⟩) (by exact ne10) (.bool j.neg))).far (p := ⟨w.heap.size, 1, none⟩) (by exact ne10) (.slice j.A j.k j.c))).set_ 0 (.bool i.neg))).set_ 1 (.slice i.A i.k i.c)))
   replace HBr := Lib.hid (((((((((HBr.out).far (p := ⟨w.heap.size, 0, none⟩) (by exact ne20) (.bool j.neg))).far (p := ⟨w.heap.size, 1, none⟩) (by exact ne20) (.slice j.A j.k j.c))).far (p := ⟨w.heap.size + 1, 0, none⟩) (by exact ne21) (.bool i.neg))).far (p := ⟨w.heap.size + 1, 1, none⟩) (by exact ne21) (.slice i.A i.k i.c)))
   replace Hi := Lib.hid (((((((((Hi.out).set (a := ⟨w.heap.size, 0, none⟩) (by simp) (.bool j.neg))).set (a := ⟨w.heap.size, 1, none⟩) (by simp) (.slice j.A j.k j.c))).set (a := ⟨w.heap.size + 1, 0, none⟩) (by simp) (.bool i.neg))).set (a := ⟨w.heap.size + 1, 1, none⟩) (by simp) (.slice i.A i.k i.c)))
   replace Hj := Lib.hid (((((((((Hj.out).set (a := ⟨w.heap.size, 0, none⟩) (by simp) (.bool j.neg))).set (a := ⟨w.heap.size, 1, none⟩) (by simp) (.slice j.A j.k j.c))).set (a := ⟨w.heap.size + 1, 0, none⟩) (by simp) (.bool i.neg))).set (a := ⟨w.heap.size + 1, 1, none⟩) (by simp) (.slice i.A i.k i.c)))
   replace Hbel := Lib.hid (((((((((Hbel.out).setCell (p := ⟨w.heap.size, 0, none⟩) (by simp) (.bool j.neg))).setCell (p := ⟨w.heap.size, 1, none⟩) (by simp) (.slice j.A j.k j.c))).setCell (p := ⟨w.heap.size + 1, 0, none⟩) (by simp) (.bool i.neg))).setCell (p := ⟨w.heap.size + 1, 1, none⟩) (by simp) (.slice i.A i.k i.c)))
   have t0 : World.cell? _ ⟨w.heap.size, 0, none⟩ = some (.bool j.neg) := HBa.out.cell 0
   have t1 : World.cell? _ ⟨w.heap.size, 1, none⟩ = some (.slice j.A j.k j.c) := HBa.out.cell 1
   have t2 : World.cell? _ ⟨w.heap.size + 1, 0, none⟩ = some (.bool i.neg) := HBb.out.cell 0
   have t3 : World.cell? _ ⟨w.heap.size + 1, 1, none⟩ = some (.slice i.A i.k i.c) := HBb.out.cell 1
   go_wp2_with fail
   go_region_held3 (fun W => W.cell? ⟨w.heap.size, 0, none⟩ = some (.bool j.neg) ∧ W.cell? ⟨w.heap.size, 1, none⟩ = some (.slice j.A j.k j.c) ∧ W.cell? ⟨w.heap.size + 1, 0, none⟩ = some (.bool i.neg) ∧ W.cell? ⟨w.heap.size + 1, 1, none⟩ = some (.slice i.A i.k i.c)) (go_keep)
    (first
     | (go_at_call_of 113 (Value.agg #[.bool j.neg, .slice j.A j.k j.c]); go_must (refine (below_f _ j y m hm Hy.out (by first | exact Hj.out.now | exact Hj.out.drew.now)).mono ?_; rintro e w3 ⟨rfl, hbw3⟩; replace HBa := Lib.hid (Blk.below (by exact HBa.out) hbw3 (by exact HBa.out.lt)); obtain ⟨sw3HBa0, sw3HBa1⟩ := Blk.c2 HBa.out; replace HBb := Lib.hid (Blk.below (by exact HBb.out) hbw3 (by exact HBb.out.lt)); obtain ⟨sw3HBb0, sw3HBb1⟩ := Blk.c2 HBb.out; replace HBr := Lib.hid (Blk.below (by exact HBr.out) hbw3 (by exact HBr.out.lt)); obtain ⟨sw3HBr0, sw3HBr1⟩ := Blk.c2 HBr.out; obtain ⟨fw3HBr0, fw3HBr1⟩ := Blk.f2 HBr.out; replace Hi := Lib.hid (Rests.below (φ := IntD i z n) (by first | exact Hi.out | exact Hi.out.drew) hbw3); replace Hj := Lib.hid (Rests.below (φ := IntD j y m) (by first | exact Hj.out | exact Hj.out.drew) hbw3); replace Hbel := Lib.hid (Below.after (by first | exact Hbel.out | exact Below.drew Hbel.out) hbw3); try replace Hr1 := Lib.hid (Rests.below (φ := fun W => Rd W .u64 A1 (digs B64 (y.natAbs - z.natAbs))) (by first | exact Hr1.out | exact Hr1.out.drew) hbw3); clear hbw3))
     | (go_at_call 115; go_must (refine (sub_i (i := j) (j := i) (z := y) (y := z) (n := m) (m := n) (by first | exact Hj.out.now | exact Hj.out.drew.now) (by first | exact Hi.out.now | exact Hi.out.drew.now) hm hn).mono ?_; rintro e w4 ⟨A1, c1, rfl, hc1, hr1, hb4, hf1⟩; have hgl := HBr.out.lt; replace HBa := Lib.hid (Blk.below (by exact HBa.out) hb4 (by exact HBa.out.lt)); obtain ⟨sw4HBa0, sw4HBa1⟩ := Blk.c2 HBa.out; replace HBb := Lib.hid (Blk.below (by exact HBb.out) hb4 (by exact HBb.out.lt)); obtain ⟨sw4HBb0, sw4HBb1⟩ := Blk.c2 HBb.out; replace HBr := Lib.hid (Blk.below (by exact HBr.out) hb4 (by exact HBr.out.lt)); obtain ⟨sw4HBr0, sw4HBr1⟩ := Blk.c2 HBr.out; obtain ⟨fw4HBr0, fw4HBr1⟩ := Blk.f2 HBr.out; replace Hi := Lib.hid (Rests.below (φ := IntD i z n) (by first | exact Hi.out | exact Hi.out.drew) hb4); replace Hj := Lib.hid (Rests.below (φ := IntD j y m) (by first | exact Hj.out | exact Hj.out.drew) hb4); replace Hbel := Lib.hid (Below.after (by first | exact Hbel.out | exact Below.drew Hbel.out) hb4); have Hr1 := Lib.hid (rests_rd (F := (w.heap.size + 1 + 1 + 1 ≤ ·)) hr1 (fun k hk => Nat.le_trans hgl (hf1 k hk))); have Hc1 := Lib.hid hc1; clear hr1 hc1 hf1 hgl; clear hb4))
     | (go_at_call 110; go_must (refine (wsigned_any _ _ _ _ _).mono ?_; rintro e w5 ⟨rfl, hb5⟩; replace HBa := Lib.hid (Blk.below (by exact HBa.out) hb5 (by exact HBa.out.lt)); obtain ⟨sw5HBa0, sw5HBa1⟩ := Blk.c2 HBa.out; replace HBb := Lib.hid (Blk.below (by exact HBb.out) hb5 (by exact HBb.out.lt)); obtain ⟨sw5HBb0, sw5HBb1⟩ := Blk.c2 HBb.out; replace HBr := Lib.hid (Blk.below (by exact HBr.out) hb5 (by exact HBr.out.lt)); obtain ⟨sw5HBr0, sw5HBr1⟩ := Blk.c2 HBr.out; obtain ⟨fw5HBr0, fw5HBr1⟩ := Blk.f2 HBr.out; replace Hi := Lib.hid (Rests.below (φ := IntD i z n) (by first | exact Hi.out | exact Hi.out.drew) hb5); replace Hj := Lib.hid (Rests.below (φ := IntD j y m) (by first | exact Hj.out | exact Hj.out.drew) hb5); replace Hr1 := Lib.hid (Rests.below (φ := fun W => Rd W .u64 A1 (digs B64 (y.natAbs - z.natAbs))) (by first | exact Hr1.out | exact Hr1.out.drew) hb5); replace Hbel := Lib.hid (Below.after (by first | exact Hbel.out | exact Below.drew Hbel.out) hb5); clear hb5)))
   all_goals
    go_wp2_with fail
    have hfin := ret_box (z := z + y) (nb := false) (g := w.heap.size + 1 + 1) (w2 := w5) Hbel.out (by omega) Hr1.out (fun _ hb => hb) Hc1.out (by have h5 := Hz.out; have h6 := Hy.out; have h7 := Hlt.out; omega) (by have h5 := Hz.out; have h6 := Hy.out; have h7 := Hlt.out; simp; omega)
    obtain ⟨q0, q1⟩ := box2 HBr.out (.bool (false)) (.slice A1 (digs B64 (y.natAbs - z.natAbs)).length c1)
    clear HBr Hbel Hr1 
    generalize ((w5.setCell ⟨w.heap.size + 1 + 1, 0, none⟩ (.bool (false))).setCell ⟨w.heap.size + 1 + 1, 1, none⟩ (.slice A1 (digs B64 (y.natAbs - z.natAbs)).length c1)) = W at *
    exact bodyPost_ret (v := .agg #[.bool (false), .slice A1 (digs B64 (y.natAbs - z.natAbs)).length c1]) (by simp [results, Tryz.results72, go_sem, q0, q1]) rfl hfin
  ·have hc : ¬ cmpN z.natAbs y.natAbs < 0 := fun h => hlt (cmpN_neg.1 h)
   have Hlt := Lib.hid (Nat.not_lt.1 hlt)
   clear hlt
   generalize cmpN z.natAbs y.natAbs = cz at *
   go_wp2_with fail
   go_region_held3 (fun W => W.cell? ⟨w.heap.size, 0, none⟩ = some (.bool i.neg) ∧ W.cell? ⟨w.heap.size, 1, none⟩ = some (.slice i.A i.k i.c) ∧ W.cell? ⟨w.heap.size + 1, 0, none⟩ = some (.bool j.neg) ∧ W.cell? ⟨w.heap.size + 1, 1, none⟩ = some (.slice j.A j.k j.c)) (go_keep)
    (first
     | (go_at_call_of 113 (Value.agg #[.bool i.neg, .slice i.A i.k i.c]); go_must (refine (below_t _ i z n hn Hz.out (by first | exact Hi.out.now | exact Hi.out.drew.now)).mono ?_; rintro e w3 ⟨rfl, hbw3⟩; replace HBa := Lib.hid (Blk.below (by exact HBa.out) hbw3 (by exact HBa.out.lt)); obtain ⟨sw3HBa0, sw3HBa1⟩ := Blk.c2 HBa.out; replace HBb := Lib.hid (Blk.below (by exact HBb.out) hbw3 (by exact HBb.out.lt)); obtain ⟨sw3HBb0, sw3HBb1⟩ := Blk.c2 HBb.out; replace HBr := Lib.hid (Blk.below (by exact HBr.out) hbw3 (by exact HBr.out.lt)); obtain ⟨sw3HBr0, sw3HBr1⟩ := Blk.c2 HBr.out; obtain ⟨fw3HBr0, fw3HBr1⟩ := Blk.f2 HBr.out; replace Hi := Lib.hid (Rests.below (φ := IntD i z n) (by first | exact Hi.out | exact Hi.out.drew) hbw3); replace Hj := Lib.hid (Rests.below (φ := IntD j y m) (by first | exact Hj.out | exact Hj.out.drew) hbw3); replace Hbel := Lib.hid (Below.after (by first | exact Hbel.out | exact Below.drew Hbel.out) hbw3); try replace Hr1 := Lib.hid (Rests.below (φ := fun W => Rd W .u64 A1 (digs B64 (z.natAbs - y.natAbs))) (by first | exact Hr1.out | exact Hr1.out.drew) hbw3); clear hbw3))
     | (go_at_call 115; go_must (refine (sub_i (i := i) (j := j) (z := z) (y := y) (n := n) (m := m) (by first | exact Hi.out.now | exact Hi.out.drew.now) (by first | exact Hj.out.now | exact Hj.out.drew.now) hn hm).mono ?_; rintro e w4 ⟨A1, c1, rfl, hc1, hr1, hb4, hf1⟩; have hgl := HBr.out.lt; replace HBa := Lib.hid (Blk.below (by exact HBa.out) hb4 (by exact HBa.out.lt)); obtain ⟨sw4HBa0, sw4HBa1⟩ := Blk.c2 HBa.out; replace HBb := Lib.hid (Blk.below (by exact HBb.out) hb4 (by exact HBb.out.lt)); obtain ⟨sw4HBb0, sw4HBb1⟩ := Blk.c2 HBb.out; replace HBr := Lib.hid (Blk.below (by exact HBr.out) hb4 (by exact HBr.out.lt)); obtain ⟨sw4HBr0, sw4HBr1⟩ := Blk.c2 HBr.out; obtain ⟨fw4HBr0, fw4HBr1⟩ := Blk.f2 HBr.out; replace Hi := Lib.hid (Rests.below (φ := IntD i z n) (by first | exact Hi.out | exact Hi.out.drew) hb4); replace Hj := Lib.hid (Rests.below (φ := IntD j y m) (by first | exact Hj.out | exact Hj.out.drew) hb4); replace Hbel := Lib.hid (Below.after (by first | exact Hbel.out | exact Below.drew Hbel.out) hb4); have Hr1 := Lib.hid (rests_rd (F := (w.heap.size + 1 + 1 + 1 ≤ ·)) hr1 (fun k hk => Nat.le_trans hgl (hf1 k hk))); have Hc1 := Lib.hid hc1; clear hr1 hc1 hf1 hgl; clear hb4))
     | (go_at_call 110; go_must (refine (wsigned_any _ _ _ _ _).mono ?_; rintro e w5 ⟨rfl, hb5⟩; replace HBa := Lib.hid (Blk.below (by exact HBa.out) hb5 (by exact HBa.out.lt)); obtain ⟨sw5HBa0, sw5HBa1⟩ := Blk.c2 HBa.out; replace HBb := Lib.hid (Blk.below (by exact HBb.out) hb5 (by exact HBb.out.lt)); obtain ⟨sw5HBb0, sw5HBb1⟩ := Blk.c2 HBb.out; replace HBr := Lib.hid (Blk.below (by exact HBr.out) hb5 (by exact HBr.out.lt)); obtain ⟨sw5HBr0, sw5HBr1⟩ := Blk.c2 HBr.out; obtain ⟨fw5HBr0, fw5HBr1⟩ := Blk.f2 HBr.out; replace Hi := Lib.hid (Rests.below (φ := IntD i z n) (by first | exact Hi.out | exact Hi.out.drew) hb5); replace Hj := Lib.hid (Rests.below (φ := IntD j y m) (by first | exact Hj.out | exact Hj.out.drew) hb5); replace Hr1 := Lib.hid (Rests.below (φ := fun W => Rd W .u64 A1 (digs B64 (z.natAbs - y.natAbs))) (by first | exact Hr1.out | exact Hr1.out.drew) hb5); replace Hbel := Lib.hid (Below.after (by first | exact Hbel.out | exact Below.drew Hbel.out) hb5); clear hb5)))
   all_goals
    go_wp2_with fail
    have hfin := ret_box (z := z + y) (nb := decide (0 < (digs B64 (z.natAbs - y.natAbs)).length)) (g := w.heap.size + 1 + 1) (w2 := w5) Hbel.out (by omega) Hr1.out (fun _ hb => hb) Hc1.out (by have h5 := Hz.out; have h6 := Hy.out; have h7 := Hlt.out; omega) (by have h5 := Hz.out; have h6 := Hy.out; have h7 := Hlt.out; have := sgn_norm true (z.natAbs - y.natAbs); rw [Bool.true_and] at this; rw [this, show iv true (z.natAbs - y.natAbs) = z + y by (simp only [iv, if_true]; omega)])
    obtain ⟨q0, q1⟩ := box2 HBr.out (.bool (decide (0 < (digs B64 (z.natAbs - y.natAbs)).length))) (.slice A1 (digs B64 (z.natAbs - y.natAbs)).length c1)
    clear HBr Hbel Hr1 
    generalize ((w5.setCell ⟨w.heap.size + 1 + 1, 0, none⟩ (.bool (decide (0 < (digs B64 (z.natAbs - y.natAbs)).length)))).setCell ⟨w.heap.size + 1 + 1, 1, none⟩ (.slice A1 (digs B64 (z.natAbs - y.natAbs)).length c1)) = W at *
    exact bodyPost_ret (v := .agg #[.bool (decide (0 < (digs B64 (z.natAbs - y.natAbs)).length)), .slice A1 (digs B64 (z.natAbs - y.natAbs)).length c1]) (by simp [results, Tryz.results72, go_sem, q0, q1]) rfl hfin

set_option maxRecDepth 100000 in
theorem wadd_ft (w : World) (i j : IV) (z y : Int) (n m : Nat) (hn : n ≤ 900000000000) (hm : m ≤ 900000000000) (h : IntD i z n w) (h' : IntD j y m w) (hz0 : ¬ z < 0) (hy0 : y < 0) :
 Calls Tryz.prog 72 #[iA i, iA j] w (RetZ (z + y) w) := by
 obtain ⟨W0, hW0⟩ : ∃ W0, W0 = (((w.alloc (.cells #[.bool i.neg, .slice i.A i.k i.c] 28)).alloc (.cells #[.bool j.neg, .slice j.A j.k j.c] 28)).alloc (.cells #[.bool false, .slice none 0 0] 28)) := ⟨_, rfl⟩
 obtain ⟨p0, p1, p2, pb⟩ := lay3 hW0
 have HBa := Lib.hid p0
 have HBb := Lib.hid p1
 have HBr := Lib.hid p2
 have Hbel := Lib.hid pb
 have Hi := Lib.hid (Rests.al3 (h.old) hW0)
 have Hj := Lib.hid (Rests.al3 (h'.old) hW0)
 clear p0 p1 p2 pb
 subst hW0
 have ne01 : w.heap.size ≠ w.heap.size + 1 := by omega
 have ne02 : w.heap.size ≠ w.heap.size + 1 + 1 := by omega
 have ne10 : w.heap.size + 1 ≠ w.heap.size := by omega
 have ne12 : w.heap.size + 1 ≠ w.heap.size + 1 + 1 := by omega
 have ne20 : w.heap.size + 1 + 1 ≠ w.heap.size := by omega
 have ne21 : w.heap.size + 1 + 1 ≠ w.heap.size + 1 := by omega
 clear h h'
 have Hz := Lib.hid (Int.not_lt.1 hz0)
 have Hy := Lib.hid hy0
 clear hz0 hy0
 unfold iA
 go_enter Tryz.func72, Tryz.ntmps72
 go_wp2_with fail
 go_region_held3 (fun W => W.cell? ⟨w.heap.size, 0, none⟩ = some (.bool i.neg) ∧ W.cell? ⟨w.heap.size, 1, none⟩ = some (.slice i.A i.k i.c) ∧ W.cell? ⟨w.heap.size + 1, 0, none⟩ = some (.bool j.neg) ∧ W.cell? ⟨w.heap.size + 1, 1, none⟩ = some (.slice j.A j.k j.c)) (go_keep)
  (first
   | (go_at_call_of 113 (Value.agg #[.bool i.neg, .slice i.A i.k i.c]); go_must (refine (below_f _ i z n hn Hz.out (by first | exact Hi.out.now | exact Hi.out.drew.now)).mono ?_; rintro e w1 ⟨rfl, hbw1⟩; replace HBa := Lib.hid (Blk.below (by exact HBa.out) hbw1 (by exact HBa.out.lt)); obtain ⟨sw1HBa0, sw1HBa1⟩ := Blk.c2 HBa.out; replace HBb := Lib.hid (Blk.below (by exact HBb.out) hbw1 (by exact HBb.out.lt)); obtain ⟨sw1HBb0, sw1HBb1⟩ := Blk.c2 HBb.out; replace HBr := Lib.hid (Blk.below (by exact HBr.out) hbw1 (by exact HBr.out.lt)); obtain ⟨sw1HBr0, sw1HBr1⟩ := Blk.c2 HBr.out; obtain ⟨fw1HBr0, fw1HBr1⟩ := Blk.f2 HBr.out; replace Hi := Lib.hid (Rests.below (φ := IntD i z n) (by first | exact Hi.out | exact Hi.out.drew) hbw1); replace Hj := Lib.hid (Rests.below (φ := IntD j y m) (by first | exact Hj.out | exact Hj.out.drew) hbw1); replace Hbel := Lib.hid (Below.after (by first | exact Hbel.out | exact Below.drew Hbel.out) hbw1); clear hbw1))
   | (go_at_call_of 113 (Value.agg #[.bool j.neg, .slice j.A j.k j.c]); go_must (refine (below_t _ j y m hm Hy.out (by first | exact Hj.out.now | exact Hj.out.drew.now)).mono ?_; rintro e w2 ⟨rfl, hbw2⟩; replace HBa := Lib.hid (Blk.below (by exact HBa.out) hbw2 (by exact HBa.out.lt)); obtain ⟨sw2HBa0, sw2HBa1⟩ := Blk.c2 HBa.out; replace HBb := Lib.hid (Blk.below (by exact HBb.out) hbw2 (by exact HBb.out.lt)); obtain ⟨sw2HBb0, sw2HBb1⟩ := Blk.c2 HBb.out; replace HBr := Lib.hid (Blk.below (by exact HBr.out) hbw2 (by exact HBr.out.lt)); obtain ⟨sw2HBr0, sw2HBr1⟩ := Blk.c2 HBr.out; obtain ⟨fw2HBr0, fw2HBr1⟩ := Blk.f2 HBr.out; replace Hi := Lib.hid (Rests.below (φ := IntD i z n) (by first | exact Hi.out | exact Hi.out.drew) hbw2); replace Hj := Lib.hid (Rests.below (φ := IntD j y m) (by first | exact Hj.out | exact Hj.out.drew) hbw2); replace Hbel := Lib.hid (Below.after (by first | exact Hbel.out | exact Below.drew Hbel.out) hbw2); clear hbw2)))
 all_goals
  go_wp2_with fail
  refine (cmp_i (i := i) (j := j) (z := z) (y := y) (n := n) (m := m) (by first | exact Hi.out.now | exact Hi.out.drew.now) (by first | exact Hj.out.now | exact Hj.out.drew.now) hn hm).mono ?_
  rintro e w' ⟨rfl, q, rfl⟩
  replace HBa := Lib.hid (HBa.out.drewN q)
  replace HBb := Lib.hid (HBb.out.drewN q)
  replace HBr := Lib.hid (HBr.out.drewN q)
  replace Hi := Lib.hid (Hi.out.drewN q)
  replace Hj := Lib.hid (Hj.out.drewN q)
  replace Hbel := Lib.hid (Below.drewN Hbel.out q)
  have d0 : World.cell? _ ⟨w.heap.size, 0, none⟩ = some (.bool i.neg) := HBa.out.cell 0
  have d1 : World.cell? _ ⟨w.heap.size, 1, none⟩ = some (.slice i.A i.k i.c) := HBa.out.cell 1
  have d2 : World.cell? _ ⟨w.heap.size + 1, 0, none⟩ = some (.bool j.neg) := HBb.out.cell 0
  have d3 : World.cell? _ ⟨w.heap.size + 1, 1, none⟩ = some (.slice j.A j.k j.c) := HBb.out.cell 1
  have e0 : World.frozen? _ ⟨w.heap.size, 0, none⟩ = false := HBa.out.frozen 0
  have e1 : World.frozen? _ ⟨w.heap.size, 1, none⟩ = false := HBa.out.frozen 1
  have e2 : World.frozen? _ ⟨w.heap.size + 1, 0, none⟩ = false := HBb.out.frozen 0
  have e3 : World.frozen? _ ⟨w.heap.size + 1, 1, none⟩ = false := HBb.out.frozen 1
  by_cases hlt : z.natAbs < y.natAbs
  ·have hc : cmpN z.natAbs y.natAbs < 0 := cmpN_neg.2 hlt
   have Hlt := Lib.hid hlt
   clear hlt
   generalize cmpN z.natAbs y.natAbs = cz at *
   replace HBa := Lib.hid (((((((((HBa.out).set_ 0 (.bool j.neg))).set_ 1 (.slice j.A j.k j.c))).far (p := ⟨w.heap.size + 1, 0, none⟩) (by exact ne01) (.bool i.neg))).far (p := ⟨w.heap.size + 1, 1, none⟩) (by exact ne01) (.slice i.A i.k i.c)))
   replace HBb := Lib.hid (((((((((HBb.out).far (p := ⟨w.heap.size, 0, none⟩) (by exact ne10) (.bool j.neg))).far (p := ⟨w.heap.size, 1, none⟩) (by exact ne10) (.slice j.A j.k j.c))).set_ 0 (.bool i.neg))).set_ 1 (.slice i.A i.k i.c)))
   replace HBr := Lib.hid (((((((((HBr.out).far (p := ⟨w.heap.size, 0, none⟩) (by exact ne20) (.bool j.neg))).far (p := ⟨w.heap.size, 1, none⟩) (by exact ne20) (.slice j.A j.k j.c))).far (p := ⟨w.heap.size + 1, 0, none⟩) (by exact ne21) (.bool i.neg))).far (p := ⟨w.heap.size + 1, 1, none⟩) (by exact ne21) (.slice i.A i.k i.c)))
   replace Hi := Lib.hid (((((((((Hi.out).set (a := ⟨w.heap.size, 0, none⟩) (by simp) (.bool j.neg))).set (a := ⟨w.heap.size, 1, none⟩) (by simp) (.slice j.A j.k j.c))).set (a := ⟨w.heap.size + 1, 0, none⟩) (by simp) (.bool i.neg))).set (a := ⟨w.heap.size + 1, 1, none⟩) (by simp) (.slice i.A i.k i.c)))
   replace Hj := Lib.hid (((((((((Hj.out).set (a := ⟨w.heap.size, 0, none⟩) (by simp) (.bool j.neg))).set (a := ⟨w.heap.size, 1, none⟩) (by simp) (.slice j.A j.k j.c))).set (a := ⟨w.heap.size + 1, 0, none⟩) (by simp) (.bool i.neg))).set (a := ⟨w.heap.size + 1, 1, none⟩) (by simp) (.slice i.A i.k i.c)))
   replace Hbel := Lib.hid (((((((((Hbel.out).setCell (p := ⟨w.heap.size, 0, none⟩) (by simp) (.bool j.neg))).setCell (p := ⟨w.heap.size, 1, none⟩) (by simp) (.slice j.A j.k j.c))).setCell (p := ⟨w.heap.size + 1, 0, none⟩) (by simp) (.bool i.neg))).setCell (p := ⟨w.heap.size + 1, 1, none⟩) (by simp) (.slice i.A i.k i.c)))
   have t0 : World.cell? _ ⟨w.heap.size, 0, none⟩ = some (.bool j.neg) := HBa.out.cell 0
   have t1 : World.cell? _ ⟨w.heap.size, 1, none⟩ = some (.slice j.A j.k j.c) := HBa.out.cell 1
   have t2 : World.cell? _ ⟨w.heap.size + 1, 0, none⟩ = some (.bool i.neg) := HBb.out.cell 0
   have t3 : World.cell? _ ⟨w.heap.size + 1, 1, none⟩ = some (.slice i.A i.k i.c) := HBb.out.cell 1
   go_wp2_with fail
   go_region_held3 (fun W => W.cell? ⟨w.heap.size, 0, none⟩ = some (.bool j.neg) ∧ W.cell? ⟨w.heap.size, 1, none⟩ = some (.slice j.A j.k j.c) ∧ W.cell? ⟨w.heap.size + 1, 0, none⟩ = some (.bool i.neg) ∧ W.cell? ⟨w.heap.size + 1, 1, none⟩ = some (.slice i.A i.k i.c)) (go_keep)
    (first
     | (go_at_call_of 113 (Value.agg #[.bool j.neg, .slice j.A j.k j.c]); go_must (refine (below_t _ j y m hm Hy.out (by first | exact Hj.out.now | exact Hj.out.drew.now)).mono ?_; rintro e w3 ⟨rfl, hbw3⟩; replace HBa := Lib.hid (Blk.below (by exact HBa.out) hbw3 (by exact HBa.out.lt)); obtain ⟨sw3HBa0, sw3HBa1⟩ := Blk.c2 HBa.out; replace HBb := Lib.hid (Blk.below (by exact HBb.out) hbw3 (by exact HBb.out.lt)); obtain ⟨sw3HBb0, sw3HBb1⟩ := Blk.c2 HBb.out; replace HBr := Lib.hid (Blk.below (by exact HBr.out) hbw3 (by exact HBr.out.lt)); obtain ⟨sw3HBr0, sw3HBr1⟩ := Blk.c2 HBr.out; obtain ⟨fw3HBr0, fw3HBr1⟩ := Blk.f2 HBr.out; replace Hi := Lib.hid (Rests.below (φ := IntD i z n) (by first | exact Hi.out | exact Hi.out.drew) hbw3); replace Hj := Lib.hid (Rests.below (φ := IntD j y m) (by first | exact Hj.out | exact Hj.out.drew) hbw3); replace Hbel := Lib.hid (Below.after (by first | exact Hbel.out | exact Below.drew Hbel.out) hbw3); try replace Hr1 := Lib.hid (Rests.below (φ := fun W => Rd W .u64 A1 (digs B64 (y.natAbs - z.natAbs))) (by first | exact Hr1.out | exact Hr1.out.drew) hbw3); clear hbw3))
     | (go_at_call 115; go_must (refine (sub_i (i := j) (j := i) (z := y) (y := z) (n := m) (m := n) (by first | exact Hj.out.now | exact Hj.out.drew.now) (by first | exact Hi.out.now | exact Hi.out.drew.now) hm hn).mono ?_; rintro e w4 ⟨A1, c1, rfl, hc1, hr1, hb4, hf1⟩; have hgl := HBr.out.lt; replace HBa := Lib.hid (Blk.below (by exact HBa.out) hb4 (by exact HBa.out.lt)); obtain ⟨sw4HBa0, sw4HBa1⟩ := Blk.c2 HBa.out; replace HBb := Lib.hid (Blk.below (by exact HBb.out) hb4 (by exact HBb.out.lt)); obtain ⟨sw4HBb0, sw4HBb1⟩ := Blk.c2 HBb.out; replace HBr := Lib.hid (Blk.below (by exact HBr.out) hb4 (by exact HBr.out.lt)); obtain ⟨sw4HBr0, sw4HBr1⟩ := Blk.c2 HBr.out; obtain ⟨fw4HBr0, fw4HBr1⟩ := Blk.f2 HBr.out; replace Hi := Lib.hid (Rests.below (φ := IntD i z n) (by first | exact Hi.out | exact Hi.out.drew) hb4); replace Hj := Lib.hid (Rests.below (φ := IntD j y m) (by first | exact Hj.out | exact Hj.out.drew) hb4); replace Hbel := Lib.hid (Below.after (by first | exact Hbel.out | exact Below.drew Hbel.out) hb4); have Hr1 := Lib.hid (rests_rd (F := (w.heap.size + 1 + 1 + 1 ≤ ·)) hr1 (fun k hk => Nat.le_trans hgl (hf1 k hk))); have Hc1 := Lib.hid hc1; clear hr1 hc1 hf1 hgl; clear hb4))
     | (go_at_call 110; go_must (refine (wsigned_any _ _ _ _ _).mono ?_; rintro e w5 ⟨rfl, hb5⟩; replace HBa := Lib.hid (Blk.below (by exact HBa.out) hb5 (by exact HBa.out.lt)); obtain ⟨sw5HBa0, sw5HBa1⟩ := Blk.c2 HBa.out; replace HBb := Lib.hid (Blk.below (by exact HBb.out) hb5 (by exact HBb.out.lt)); obtain ⟨sw5HBb0, sw5HBb1⟩ := Blk.c2 HBb.out; replace HBr := Lib.hid (Blk.below (by exact HBr.out) hb5 (by exact HBr.out.lt)); obtain ⟨sw5HBr0, sw5HBr1⟩ := Blk.c2 HBr.out; obtain ⟨fw5HBr0, fw5HBr1⟩ := Blk.f2 HBr.out; replace Hi := Lib.hid (Rests.below (φ := IntD i z n) (by first | exact Hi.out | exact Hi.out.drew) hb5); replace Hj := Lib.hid (Rests.below (φ := IntD j y m) (by first | exact Hj.out | exact Hj.out.drew) hb5); replace Hr1 := Lib.hid (Rests.below (φ := fun W => Rd W .u64 A1 (digs B64 (y.natAbs - z.natAbs))) (by first | exact Hr1.out | exact Hr1.out.drew) hb5); replace Hbel := Lib.hid (Below.after (by first | exact Hbel.out | exact Below.drew Hbel.out) hb5); clear hb5)))
   all_goals
    go_wp2_with fail
    have hfin := ret_box (z := z + y) (nb := decide (0 < (digs B64 (y.natAbs - z.natAbs)).length)) (g := w.heap.size + 1 + 1) (w2 := w5) Hbel.out (by omega) Hr1.out (fun _ hb => hb) Hc1.out (by have h5 := Hz.out; have h6 := Hy.out; have h7 := Hlt.out; omega) (by have h5 := Hz.out; have h6 := Hy.out; have h7 := Hlt.out; have := sgn_norm true (y.natAbs - z.natAbs); rw [Bool.true_and] at this; rw [this, show iv true (y.natAbs - z.natAbs) = z + y by (simp only [iv, if_true]; omega)])
    obtain ⟨q0, q1⟩ := box2 HBr.out (.bool (decide (0 < (digs B64 (y.natAbs - z.natAbs)).length))) (.slice A1 (digs B64 (y.natAbs - z.natAbs)).length c1)
    clear HBr Hbel Hr1 
    generalize ((w5.setCell ⟨w.heap.size + 1 + 1, 0, none⟩ (.bool (decide (0 < (digs B64 (y.natAbs - z.natAbs)).length)))).setCell ⟨w.heap.size + 1 + 1, 1, none⟩ (.slice A1 (digs B64 (y.natAbs - z.natAbs)).length c1)) = W at *
    exact bodyPost_ret (v := .agg #[.bool (decide (0 < (digs B64 (y.natAbs - z.natAbs)).length)), .slice A1 (digs B64 (y.natAbs - z.natAbs)).length c1]) (by simp [results, Tryz.results72, go_sem, q0, q1]) rfl hfin
  ·have hc : ¬ cmpN z.natAbs y.natAbs < 0 := fun h => hlt (cmpN_neg.1 h)
   have Hlt := Lib.hid (Nat.not_lt.1 hlt)
   clear hlt
   generalize cmpN z.natAbs y.natAbs = cz at *
   go_wp2_with fail
   go_region_held3 (fun W => W.cell? ⟨w.heap.size, 0, none⟩ = some (.bool i.neg) ∧ W.cell? ⟨w.heap.size, 1, none⟩ = some (.slice i.A i.k i.c) ∧ W.cell? ⟨w.heap.size + 1, 0, none⟩ = some (.bool j.neg) ∧ W.cell? ⟨w.heap.size + 1, 1, none⟩ = some (.slice j.A j.k j.c)) (go_keep)
    (first
     | (go_at_call_of 113 (Value.agg #[.bool i.neg, .slice i.A i.k i.c]); go_must (refine (below_f _ i z n hn Hz.out (by first | exact Hi.out.now | exact Hi.out.drew.now)).mono ?_; rintro e w3 ⟨rfl, hbw3⟩; replace HBa := Lib.hid (Blk.below (by exact HBa.out) hbw3 (by exact HBa.out.lt)); obtain ⟨sw3HBa0, sw3HBa1⟩ := Blk.c2 HBa.out; replace HBb := Lib.hid (Blk.below (by exact HBb.out) hbw3 (by exact HBb.out.lt)); obtain ⟨sw3HBb0, sw3HBb1⟩ := Blk.c2 HBb.out; replace HBr := Lib.hid (Blk.below (by exact HBr.out) hbw3 (by exact HBr.out.lt)); obtain ⟨sw3HBr0, sw3HBr1⟩ := Blk.c2 HBr.out; obtain ⟨fw3HBr0, fw3HBr1⟩ := Blk.f2 HBr.out; replace Hi := Lib.hid (Rests.below (φ := IntD i z n) (by first | exact Hi.out | exact Hi.out.drew) hbw3); replace Hj := Lib.hid (Rests.below (φ := IntD j y m) (by first | exact Hj.out | exact Hj.out.drew) hbw3); replace Hbel := Lib.hid (Below.after (by first | exact Hbel.out | exact Below.drew Hbel.out) hbw3); try replace Hr1 := Lib.hid (Rests.below (φ := fun W => Rd W .u64 A1 (digs B64 (z.natAbs - y.natAbs))) (by first | exact Hr1.out | exact Hr1.out.drew) hbw3); clear hbw3))
     | (go_at_call 115; go_must (refine (sub_i (i := i) (j := j) (z := z) (y := y) (n := n) (m := m) (by first | exact Hi.out.now | exact Hi.out.drew.now) (by first | exact Hj.out.now | exact Hj.out.drew.now) hn hm).mono ?_; rintro e w4 ⟨A1, c1, rfl, hc1, hr1, hb4, hf1⟩; have hgl := HBr.out.lt; replace HBa := Lib.hid (Blk.below (by exact HBa.out) hb4 (by exact HBa.out.lt)); obtain ⟨sw4HBa0, sw4HBa1⟩ := Blk.c2 HBa.out; replace HBb := Lib.hid (Blk.below (by exact HBb.out) hb4 (by exact HBb.out.lt)); obtain ⟨sw4HBb0, sw4HBb1⟩ := Blk.c2 HBb.out; replace HBr := Lib.hid (Blk.below (by exact HBr.out) hb4 (by exact HBr.out.lt)); obtain ⟨sw4HBr0, sw4HBr1⟩ := Blk.c2 HBr.out; obtain ⟨fw4HBr0, fw4HBr1⟩ := Blk.f2 HBr.out; replace Hi := Lib.hid (Rests.below (φ := IntD i z n) (by first | exact Hi.out | exact Hi.out.drew) hb4); replace Hj := Lib.hid (Rests.below (φ := IntD j y m) (by first | exact Hj.out | exact Hj.out.drew) hb4); replace Hbel := Lib.hid (Below.after (by first | exact Hbel.out | exact Below.drew Hbel.out) hb4); have Hr1 := Lib.hid (rests_rd (F := (w.heap.size + 1 + 1 + 1 ≤ ·)) hr1 (fun k hk => Nat.le_trans hgl (hf1 k hk))); have Hc1 := Lib.hid hc1; clear hr1 hc1 hf1 hgl; clear hb4))
     | (go_at_call 110; go_must (refine (wsigned_any _ _ _ _ _).mono ?_; rintro e w5 ⟨rfl, hb5⟩; replace HBa := Lib.hid (Blk.below (by exact HBa.out) hb5 (by exact HBa.out.lt)); obtain ⟨sw5HBa0, sw5HBa1⟩ := Blk.c2 HBa.out; replace HBb := Lib.hid (Blk.below (by exact HBb.out) hb5 (by exact HBb.out.lt)); obtain ⟨sw5HBb0, sw5HBb1⟩ := Blk.c2 HBb.out; replace HBr := Lib.hid (Blk.below (by exact HBr.out) hb5 (by exact HBr.out.lt)); obtain ⟨sw5HBr0, sw5HBr1⟩ := Blk.c2 HBr.out; obtain ⟨fw5HBr0, fw5HBr1⟩ := Blk.f2 HBr.out; replace Hi := Lib.hid (Rests.below (φ := IntD i z n) (by first | exact Hi.out | exact Hi.out.drew) hb5); replace Hj := Lib.hid (Rests.below (φ := IntD j y m) (by first | exact Hj.out | exact Hj.out.drew) hb5); replace Hr1 := Lib.hid (Rests.below (φ := fun W => Rd W .u64 A1 (digs B64 (z.natAbs - y.natAbs))) (by first | exact Hr1.out | exact Hr1.out.drew) hb5); replace Hbel := Lib.hid (Below.after (by first | exact Hbel.out | exact Below.drew Hbel.out) hb5); clear hb5)))
   all_goals
    go_wp2_with fail
    have hfin := ret_box (z := z + y) (nb := false) (g := w.heap.size + 1 + 1) (w2 := w5) Hbel.out (by omega) Hr1.out (fun _ hb => hb) Hc1.out (by have h5 := Hz.out; have h6 := Hy.out; have h7 := Hlt.out; omega) (by have h5 := Hz.out; have h6 := Hy.out; have h7 := Hlt.out; simp; omega)
    obtain ⟨q0, q1⟩ := box2 HBr.out (.bool (false)) (.slice A1 (digs B64 (z.natAbs - y.natAbs)).length c1)
    clear HBr Hbel Hr1 
    generalize ((w5.setCell ⟨w.heap.size + 1 + 1, 0, none⟩ (.bool (false))).setCell ⟨w.heap.size + 1 + 1, 1, none⟩ (.slice A1 (digs B64 (z.natAbs - y.natAbs)).length c1)) = W at *
    exact bodyPost_ret (v := .agg #[.bool (false), .slice A1 (digs B64 (z.natAbs - y.natAbs)).length c1]) (by simp [results, Tryz.results72, go_sem, q0, q1]) rfl hfin

set_option maxRecDepth 100000 in
theorem wadd_ff (w : World) (i j : IV) (z y : Int) (n m : Nat) (hn : n ≤ 900000000000) (hm : m ≤ 900000000000) (h : IntD i z n w) (h' : IntD j y m w) (hz0 : ¬ z < 0) (hy0 : ¬ y < 0) :
 Calls Tryz.prog 72 #[iA i, iA j] w (RetZ (z + y) w) := by
 obtain ⟨W0, hW0⟩ : ∃ W0, W0 = (((w.alloc (.cells #[.bool i.neg, .slice i.A i.k i.c] 28)).alloc (.cells #[.bool j.neg, .slice j.A j.k j.c] 28)).alloc (.cells #[.bool false, .slice none 0 0] 28)) := ⟨_, rfl⟩
 obtain ⟨p0, p1, p2, pb⟩ := lay3 hW0
 have HBa := Lib.hid p0
 have HBb := Lib.hid p1
 have HBr := Lib.hid p2
 have Hbel := Lib.hid pb
 have Hi := Lib.hid (Rests.al3 (h.old) hW0)
 have Hj := Lib.hid (Rests.al3 (h'.old) hW0)
 clear p0 p1 p2 pb
 subst hW0
 have ne01 : w.heap.size ≠ w.heap.size + 1 := by omega
 have ne02 : w.heap.size ≠ w.heap.size + 1 + 1 := by omega
 have ne10 : w.heap.size + 1 ≠ w.heap.size := by omega
 have ne12 : w.heap.size + 1 ≠ w.heap.size + 1 + 1 := by omega
 have ne20 : w.heap.size + 1 + 1 ≠ w.heap.size := by omega
 have ne21 : w.heap.size + 1 + 1 ≠ w.heap.size + 1 := by omega
 clear h h'
 have Hz := Lib.hid (Int.not_lt.1 hz0)
 have Hy := Lib.hid (Int.not_lt.1 hy0)
 clear hz0 hy0
 unfold iA
 go_enter Tryz.func72, Tryz.ntmps72
 go_wp2_with fail
 go_region_held3 (fun W => W.cell? ⟨w.heap.size, 0, none⟩ = some (.bool i.neg) ∧ W.cell? ⟨w.heap.size, 1, none⟩ = some (.slice i.A i.k i.c) ∧ W.cell? ⟨w.heap.size + 1, 0, none⟩ = some (.bool j.neg) ∧ W.cell? ⟨w.heap.size + 1, 1, none⟩ = some (.slice j.A j.k j.c)) (go_keep)
  (first
   | (go_at_call_of 113 (Value.agg #[.bool i.neg, .slice i.A i.k i.c]); go_must (refine (below_f _ i z n hn Hz.out (by first | exact Hi.out.now | exact Hi.out.drew.now)).mono ?_; rintro e w1 ⟨rfl, hbw1⟩; replace HBa := Lib.hid (Blk.below (by exact HBa.out) hbw1 (by exact HBa.out.lt)); obtain ⟨sw1HBa0, sw1HBa1⟩ := Blk.c2 HBa.out; replace HBb := Lib.hid (Blk.below (by exact HBb.out) hbw1 (by exact HBb.out.lt)); obtain ⟨sw1HBb0, sw1HBb1⟩ := Blk.c2 HBb.out; replace HBr := Lib.hid (Blk.below (by exact HBr.out) hbw1 (by exact HBr.out.lt)); obtain ⟨sw1HBr0, sw1HBr1⟩ := Blk.c2 HBr.out; obtain ⟨fw1HBr0, fw1HBr1⟩ := Blk.f2 HBr.out; replace Hi := Lib.hid (Rests.below (φ := IntD i z n) (by first | exact Hi.out | exact Hi.out.drew) hbw1); replace Hj := Lib.hid (Rests.below (φ := IntD j y m) (by first | exact Hj.out | exact Hj.out.drew) hbw1); replace Hbel := Lib.hid (Below.after (by first | exact Hbel.out | exact Below.drew Hbel.out) hbw1); clear hbw1))
   | (go_at_call_of 113 (Value.agg #[.bool j.neg, .slice j.A j.k j.c]); go_must (refine (below_f _ j y m hm Hy.out (by first | exact Hj.out.now | exact Hj.out.drew.now)).mono ?_; rintro e w2 ⟨rfl, hbw2⟩; replace HBa := Lib.hid (Blk.below (by exact HBa.out) hbw2 (by exact HBa.out.lt)); obtain ⟨sw2HBa0, sw2HBa1⟩ := Blk.c2 HBa.out; replace HBb := Lib.hid (Blk.below (by exact HBb.out) hbw2 (by exact HBb.out.lt)); obtain ⟨sw2HBb0, sw2HBb1⟩ := Blk.c2 HBb.out; replace HBr := Lib.hid (Blk.below (by exact HBr.out) hbw2 (by exact HBr.out.lt)); obtain ⟨sw2HBr0, sw2HBr1⟩ := Blk.c2 HBr.out; obtain ⟨fw2HBr0, fw2HBr1⟩ := Blk.f2 HBr.out; replace Hi := Lib.hid (Rests.below (φ := IntD i z n) (by first | exact Hi.out | exact Hi.out.drew) hbw2); replace Hj := Lib.hid (Rests.below (φ := IntD j y m) (by first | exact Hj.out | exact Hj.out.drew) hbw2); replace Hbel := Lib.hid (Below.after (by first | exact Hbel.out | exact Below.drew Hbel.out) hbw2); clear hbw2)))
 all_goals
  go_wp2_with fail
  go_region_held3 (fun W => W.cell? ⟨w.heap.size, 0, none⟩ = some (.bool i.neg) ∧ W.cell? ⟨w.heap.size, 1, none⟩ = some (.slice i.A i.k i.c) ∧ W.cell? ⟨w.heap.size + 1, 0, none⟩ = some (.bool j.neg) ∧ W.cell? ⟨w.heap.size + 1, 1, none⟩ = some (.slice j.A j.k j.c)) (go_keep)
   (first
    | (go_at_call_of 113 (Value.agg #[.bool i.neg, .slice i.A i.k i.c]); go_must (refine (below_f _ i z n hn Hz.out (by first | exact Hi.out.now | exact Hi.out.drew.now)).mono ?_; rintro e w3 ⟨rfl, hbw3⟩; replace HBa := Lib.hid (Blk.below (by exact HBa.out) hbw3 (by exact HBa.out.lt)); obtain ⟨sw3HBa0, sw3HBa1⟩ := Blk.c2 HBa.out; replace HBb := Lib.hid (Blk.below (by exact HBb.out) hbw3 (by exact HBb.out.lt)); obtain ⟨sw3HBb0, sw3HBb1⟩ := Blk.c2 HBb.out; replace HBr := Lib.hid (Blk.below (by exact HBr.out) hbw3 (by exact HBr.out.lt)); obtain ⟨sw3HBr0, sw3HBr1⟩ := Blk.c2 HBr.out; obtain ⟨fw3HBr0, fw3HBr1⟩ := Blk.f2 HBr.out; replace Hi := Lib.hid (Rests.below (φ := IntD i z n) (by first | exact Hi.out | exact Hi.out.drew) hbw3); replace Hj := Lib.hid (Rests.below (φ := IntD j y m) (by first | exact Hj.out | exact Hj.out.drew) hbw3); replace Hbel := Lib.hid (Below.after (by first | exact Hbel.out | exact Below.drew Hbel.out) hbw3); try replace Hr1 := Lib.hid (Rests.below (φ := fun W => Rd W .u64 A1 (digs B64 (z.natAbs + y.natAbs))) (by first | exact Hr1.out | exact Hr1.out.drew) hbw3); clear hbw3))
    | (go_at_call 114; go_must (refine (add_i (i := i) (j := j) (z := z) (y := y) (n := n) (m := m) (by first | exact Hi.out.now | exact Hi.out.drew.now) (by first | exact Hj.out.now | exact Hj.out.drew.now) hn hm).mono ?_; rintro e w4 ⟨A1, c1, rfl, hc1, hr1, hb4, hf1⟩; have hgl := HBr.out.lt; replace HBa := Lib.hid (Blk.below (by exact HBa.out) hb4 (by exact HBa.out.lt)); obtain ⟨sw4HBa0, sw4HBa1⟩ := Blk.c2 HBa.out; replace HBb := Lib.hid (Blk.below (by exact HBb.out) hb4 (by exact HBb.out.lt)); obtain ⟨sw4HBb0, sw4HBb1⟩ := Blk.c2 HBb.out; replace HBr := Lib.hid (Blk.below (by exact HBr.out) hb4 (by exact HBr.out.lt)); obtain ⟨sw4HBr0, sw4HBr1⟩ := Blk.c2 HBr.out; obtain ⟨fw4HBr0, fw4HBr1⟩ := Blk.f2 HBr.out; replace Hi := Lib.hid (Rests.below (φ := IntD i z n) (by first | exact Hi.out | exact Hi.out.drew) hb4); replace Hj := Lib.hid (Rests.below (φ := IntD j y m) (by first | exact Hj.out | exact Hj.out.drew) hb4); replace Hbel := Lib.hid (Below.after (by first | exact Hbel.out | exact Below.drew Hbel.out) hb4); have Hr1 := Lib.hid (rests_rd (F := (w.heap.size + 1 + 1 + 1 ≤ ·)) hr1 (fun k hk => Nat.le_trans hgl (hf1 k hk))); have Hc1 := Lib.hid hc1; clear hr1 hc1 hf1 hgl; clear hb4))
    | (go_at_call 110; go_must (refine (wsigned_any _ _ _ _ _).mono ?_; rintro e w5 ⟨rfl, hb5⟩; replace HBa := Lib.hid (Blk.below (by exact HBa.out) hb5 (by exact HBa.out.lt)); obtain ⟨sw5HBa0, sw5HBa1⟩ := Blk.c2 HBa.out; replace HBb := Lib.hid (Blk.below (by exact HBb.out) hb5 (by exact HBb.out.lt)); obtain ⟨sw5HBb0, sw5HBb1⟩ := Blk.c2 HBb.out; replace HBr := Lib.hid (Blk.below (by exact HBr.out) hb5 (by exact HBr.out.lt)); obtain ⟨sw5HBr0, sw5HBr1⟩ := Blk.c2 HBr.out; obtain ⟨fw5HBr0, fw5HBr1⟩ := Blk.f2 HBr.out; replace Hi := Lib.hid (Rests.below (φ := IntD i z n) (by first | exact Hi.out | exact Hi.out.drew) hb5); replace Hj := Lib.hid (Rests.below (φ := IntD j y m) (by first | exact Hj.out | exact Hj.out.drew) hb5); replace Hr1 := Lib.hid (Rests.below (φ := fun W => Rd W .u64 A1 (digs B64 (z.natAbs + y.natAbs))) (by first | exact Hr1.out | exact Hr1.out.drew) hb5); replace Hbel := Lib.hid (Below.after (by first | exact Hbel.out | exact Below.drew Hbel.out) hb5); clear hb5)))
  all_goals
   go_wp2_with fail
   have hfin := ret_box (z := z + y) (nb := false) (g := w.heap.size + 1 + 1) (w2 := w5) Hbel.out (by omega) Hr1.out (fun _ hb => hb) Hc1.out (by have h5 := Hz.out; have h6 := Hy.out; omega) (by have h5 := Hz.out; have h6 := Hy.out; simp; omega)
   obtain ⟨q0, q1⟩ := box2 HBr.out (.bool (false)) (.slice A1 (digs B64 (z.natAbs + y.natAbs)).length c1)
   clear HBr Hbel Hr1 
   generalize ((w5.setCell ⟨w.heap.size + 1 + 1, 0, none⟩ (.bool (false))).setCell ⟨w.heap.size + 1 + 1, 1, none⟩ (.slice A1 (digs B64 (z.natAbs + y.natAbs)).length c1)) = W at *
   exact bodyPost_ret (v := .agg #[.bool (false), .slice A1 (digs B64 (z.natAbs + y.natAbs)).length c1]) (by simp [results, Tryz.results72, go_sem, q0, q1]) rfl hfin

set_option maxRecDepth 100000 in
theorem wadd_any (w : World) (i j : IV) (z y : Int) (n m : Nat) (hn : n ≤ 900000000000) (hm : m ≤ 900000000000) (h : IntD i z n w) (h' : IntD j y m w) :
 Calls Tryz.prog 72 #[iA i, iA j] w (RetZ (z + y) w) := by
 by_cases hz0 : z < 0 <;> by_cases hy0 : y < 0
 ·exact wadd_tt w i j z y n m hn hm h h' hz0 hy0
 ·exact wadd_tf w i j z y n m hn hm h h' hz0 hy0
 ·exact wadd_ft w i j z y n m hn hm h h' hz0 hy0
 ·exact wadd_ff w i j z y n m hn hm h h' hz0 hy0
end Go.Proofs.YtplhmeiciiajcaaGreatDoor
