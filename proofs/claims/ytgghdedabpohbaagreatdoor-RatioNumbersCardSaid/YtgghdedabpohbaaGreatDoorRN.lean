/-
  ratio: Max, Min, Floor. ratio: Floor. ratio: IsWhole.
-/
import Derived.Test.YtgghdedabpohbaaGreatDoorRJ
import Derived.Test.YtgghdedabpohbaaGreatDoorRL
namespace Go.Proofs.YtgghdedabpohbaaGreatDoor
open Go.RowKit

theorem cmpQ3 (a b : Rat) : cmpQ a b = -1 ∨ cmpQ a b = 0 ∨ cmpQ a b = 1 := by
  rw [cmpQ_num, cmpZ_sign]; exact sgn3 _
def maxQ (a b : Rat) : Rat := if cmpQ a b < 0 then b else a
def minQ (a b : Rat) : Rat := if 0 < cmpQ a b then b else a

set_option maxRecDepth 100000 in
set_option maxHeartbeats 1000000 in
theorem rmax_neg (w : World) (r s : RV) (a b : Rat) (n : Nat) (hn : n ≤ 400000000000) (h1n : 1 ≤ n) (h : RatD r a n w) (h' : RatD s b n w) (hT : Tz w) (hc : cmpQ a b = -1) :
    Calls Tryz.prog 63 #[.agg #[.bool r.num.neg, .slice r.num.A r.num.k r.num.c, .bool r.den.neg, .slice r.den.A r.den.k r.den.c], .agg #[.bool s.num.neg, .slice s.num.A s.num.k s.num.c, .bool s.den.neg, .slice s.den.A s.den.k s.den.c]] w (RetR (maxQ a b) w) := by
  have Hqq := Lib.hid (show maxQ a b = b from by unfold maxQ; rw [hc]; rfl)
  have Hc := Lib.hid hc
  obtain ⟨W0, hW0⟩ : ∃ W0, W0 = (((w.alloc (.cells #[.bool r.num.neg, .slice r.num.A r.num.k r.num.c, .bool r.den.neg, .slice r.den.A r.den.k r.den.c] 50)).alloc (.cells #[.bool s.num.neg, .slice s.num.A s.num.k s.num.c, .bool s.den.neg, .slice s.den.A s.den.k s.den.c] 50)).alloc (.cells #[.bool false, .slice none 0 0, .bool false, .slice none 0 0] 50)) := ⟨_, rfl⟩
  obtain ⟨p0, p1, p2, pb⟩ := lay3 hW0
  have HBa := Lib.hid p0
  have HBb := Lib.hid p1
  have HBr := Lib.hid p2
  have Hbel := Lib.hid pb
  have Hx := Lib.hid (Rests.al3 (h.old) hW0)
  have Hx' := Lib.hid (Rests.al3 (h'.old) hW0)
  have HT := Lib.hid (Rests.al3 (hT.old) hW0)
  clear p0 p1 p2 pb
  subst hW0
  have ne01 : w.heap.size ≠ w.heap.size + 1 := by omega
  have ne02 : w.heap.size ≠ w.heap.size + 1 + 1 := by omega
  have ne10 : w.heap.size + 1 ≠ w.heap.size := by omega
  have ne12 : w.heap.size + 1 ≠ w.heap.size + 1 + 1 := by omega
  have ne20 : w.heap.size + 1 + 1 ≠ w.heap.size := by omega
  have ne21 : w.heap.size + 1 + 1 ≠ w.heap.size + 1 := by omega
  clear h h' hT hc
  go_enter Tryz.func63, Tryz.ntmps63
  go_wp2_with fail
  refine (rcmp_any _ r s a b n hn h1n (by first | exact Hx.out.now | exact Hx.out.drew.now) (by first | exact Hx'.out.now | exact Hx'.out.drew.now)).mono ?_
  rintro e w1 ⟨rfl, hb1⟩
  replace HBa := Lib.hid (Blk.below (by exact HBa.out) hb1 (by exact HBa.out.lt))
  obtain ⟨sw1HBa0, sw1HBa1, sw1HBa2, sw1HBa3⟩ := Blk.c4 HBa.out
  replace HBb := Lib.hid (Blk.below (by exact HBb.out) hb1 (by exact HBb.out.lt))
  obtain ⟨sw1HBb0, sw1HBb1, sw1HBb2, sw1HBb3⟩ := Blk.c4 HBb.out
  replace HBr := Lib.hid (Blk.below (by exact HBr.out) hb1 (by exact HBr.out.lt))
  obtain ⟨sw1HBr0, sw1HBr1, sw1HBr2, sw1HBr3⟩ := Blk.c4 HBr.out
  obtain ⟨fw1HBr0, fw1HBr1, fw1HBr2, fw1HBr3⟩ := Blk.f4 HBr.out
  replace Hx := Lib.hid (Rests.below (φ := RatD r a n) (by first | exact Hx.out | exact Hx.out.drew) hb1)
  replace Hx' := Lib.hid (Rests.below (φ := RatD s b n) (by first | exact Hx'.out | exact Hx'.out.drew) hb1)
  replace HT := Lib.hid (Rests.below (φ := Tz) (by first | exact HT.out | exact HT.out.drew) hb1)
  replace Hbel := Lib.hid (Below.after (by first | exact Hbel.out | exact Below.drew Hbel.out) hb1)
  rw [Hc.out]
  clear hb1
  go_wp2_with fail
  refine (rnorm_any _ s b n (by omega) h1n (by first | exact Hx'.out.now | exact Hx'.out.drew.now) (by first | exact HT.out.now | exact HT.out.drew.now)).mono ?_
  rintro e w5 ⟨rr, rfl, hrr, hb5⟩
  have hgl := HBr.out.lt
  replace HBr := Lib.hid (Blk.below (by exact HBr.out) hb5 (by exact HBr.out.lt))
  obtain ⟨sw5HBr0, sw5HBr1, sw5HBr2, sw5HBr3⟩ := Blk.c4 HBr.out
  obtain ⟨fw5HBr0, fw5HBr1, fw5HBr2, fw5HBr3⟩ := Blk.f4 HBr.out
  replace Hbel := Lib.hid (Below.after (by first | exact Hbel.out | exact Below.drew Hbel.out) hb5)
  have Hrr := Lib.hid (hrr.mono (G := (w.heap.size + 1 + 1 + 1 ≤ ·)) (fun b hb => Nat.le_trans hgl hb))
  clear hrr hgl
  clear hb5
  rw [← Hqq.out] at Hrr
  go_wp2_with fail
  have hfin : RetR (maxQ a b) w (.returned (.agg #[.bool rr.num.neg, .slice rr.num.A rr.num.k rr.num.c, .bool rr.den.neg, .slice rr.den.A rr.den.k rr.den.c])) ((((w5.setCell ⟨w.heap.size + 1 + 1, 0, none⟩ (.bool rr.num.neg)).setCell ⟨w.heap.size + 1 + 1, 1, none⟩ (.slice rr.num.A rr.num.k rr.num.c)).setCell ⟨w.heap.size + 1 + 1, 2, none⟩ (.bool rr.den.neg)).setCell ⟨w.heap.size + 1 + 1, 3, none⟩ (.slice rr.den.A rr.den.k rr.den.c)) := ret_boxR (r := rr) (g := w.heap.size + 1 + 1) (w2 := w5) Hbel.out (by omega) Hrr.out (fun _ h => h)
  have b4 := box4 HBr.out (.bool rr.num.neg) (.slice rr.num.A rr.num.k rr.num.c) (.bool rr.den.neg) (.slice rr.den.A rr.den.k rr.den.c)
  have q0 : World.cell? ((((w5.setCell ⟨w.heap.size + 1 + 1, 0, none⟩ (.bool rr.num.neg)).setCell ⟨w.heap.size + 1 + 1, 1, none⟩ (.slice rr.num.A rr.num.k rr.num.c)).setCell ⟨w.heap.size + 1 + 1, 2, none⟩ (.bool rr.den.neg)).setCell ⟨w.heap.size + 1 + 1, 3, none⟩ (.slice rr.den.A rr.den.k rr.den.c)) ⟨w.heap.size + 1 + 1, 0, none⟩ = some (.bool rr.num.neg) := b4.cell 0
  have q1 : World.cell? ((((w5.setCell ⟨w.heap.size + 1 + 1, 0, none⟩ (.bool rr.num.neg)).setCell ⟨w.heap.size + 1 + 1, 1, none⟩ (.slice rr.num.A rr.num.k rr.num.c)).setCell ⟨w.heap.size + 1 + 1, 2, none⟩ (.bool rr.den.neg)).setCell ⟨w.heap.size + 1 + 1, 3, none⟩ (.slice rr.den.A rr.den.k rr.den.c)) ⟨w.heap.size + 1 + 1, 1, none⟩ = some (.slice rr.num.A rr.num.k rr.num.c) := b4.cell 1
  have q2 : World.cell? ((((w5.setCell ⟨w.heap.size + 1 + 1, 0, none⟩ (.bool rr.num.neg)).setCell ⟨w.heap.size + 1 + 1, 1, none⟩ (.slice rr.num.A rr.num.k rr.num.c)).setCell ⟨w.heap.size + 1 + 1, 2, none⟩ (.bool rr.den.neg)).setCell ⟨w.heap.size + 1 + 1, 3, none⟩ (.slice rr.den.A rr.den.k rr.den.c)) ⟨w.heap.size + 1 + 1, 2, none⟩ = some (.bool rr.den.neg) := b4.cell 2
  have q3 : World.cell? ((((w5.setCell ⟨w.heap.size + 1 + 1, 0, none⟩ (.bool rr.num.neg)).setCell ⟨w.heap.size + 1 + 1, 1, none⟩ (.slice rr.num.A rr.num.k rr.num.c)).setCell ⟨w.heap.size + 1 + 1, 2, none⟩ (.bool rr.den.neg)).setCell ⟨w.heap.size + 1 + 1, 3, none⟩ (.slice rr.den.A rr.den.k rr.den.c)) ⟨w.heap.size + 1 + 1, 3, none⟩ = some (.slice rr.den.A rr.den.k rr.den.c) := b4.cell 3
  clear b4 HBr Hbel
  generalize ((((w5.setCell ⟨w.heap.size + 1 + 1, 0, none⟩ (.bool rr.num.neg)).setCell ⟨w.heap.size + 1 + 1, 1, none⟩ (.slice rr.num.A rr.num.k rr.num.c)).setCell ⟨w.heap.size + 1 + 1, 2, none⟩ (.bool rr.den.neg)).setCell ⟨w.heap.size + 1 + 1, 3, none⟩ (.slice rr.den.A rr.den.k rr.den.c)) = W at *
  exact bodyPost_ret (v := .agg #[.bool rr.num.neg, .slice rr.num.A rr.num.k rr.num.c, .bool rr.den.neg, .slice rr.den.A rr.den.k rr.den.c]) (by simp [results, Tryz.results63, go_sem, q0, q1, q2, q3]) rfl hfin

set_option maxRecDepth 100000 in
set_option maxHeartbeats 1000000 in
theorem rmax_zero (w : World) (r s : RV) (a b : Rat) (n : Nat) (hn : n ≤ 400000000000) (h1n : 1 ≤ n) (h : RatD r a n w) (h' : RatD s b n w) (hT : Tz w) (hc : cmpQ a b = 0) :
    Calls Tryz.prog 63 #[.agg #[.bool r.num.neg, .slice r.num.A r.num.k r.num.c, .bool r.den.neg, .slice r.den.A r.den.k r.den.c], .agg #[.bool s.num.neg, .slice s.num.A s.num.k s.num.c, .bool s.den.neg, .slice s.den.A s.den.k s.den.c]] w (RetR (maxQ a b) w) := by
  have Hqq := Lib.hid (show maxQ a b = a from by unfold maxQ; rw [hc]; rfl)
  have Hc := Lib.hid hc
  obtain ⟨W0, hW0⟩ : ∃ W0, W0 = (((w.alloc (.cells #[.bool r.num.neg, .slice r.num.A r.num.k r.num.c, .bool r.den.neg, .slice r.den.A r.den.k r.den.c] 50)).alloc (.cells #[.bool s.num.neg, .slice s.num.A s.num.k s.num.c, .bool s.den.neg, .slice s.den.A s.den.k s.den.c] 50)).alloc (.cells #[.bool false, .slice none 0 0, .bool false, .slice none 0 0] 50)) := ⟨_, rfl⟩
  obtain ⟨p0, p1, p2, pb⟩ := lay3 hW0
  have HBa := Lib.hid p0
  have HBb := Lib.hid p1
  have HBr := Lib.hid p2
  have Hbel := Lib.hid pb
  have Hx := Lib.hid (Rests.al3 (h.old) hW0)
  have Hx' := Lib.hid (Rests.al3 (h'.old) hW0)
  have HT := Lib.hid (Rests.al3 (hT.old) hW0)
  clear p0 p1 p2 pb
  subst hW0
  have ne01 : w.heap.size ≠ w.heap.size + 1 := by omega
  have ne02 : w.heap.size ≠ w.heap.size + 1 + 1 := by omega
  have ne10 : w.heap.size + 1 ≠ w.heap.size := by omega
  have ne12 : w.heap.size + 1 ≠ w.heap.size + 1 + 1 := by omega
  have ne20 : w.heap.size + 1 + 1 ≠ w.heap.size := by omega
  have ne21 : w.heap.size + 1 + 1 ≠ w.heap.size + 1 := by omega
  clear h h' hT hc
  go_enter Tryz.func63, Tryz.ntmps63
  go_wp2_with fail
  refine (rcmp_any _ r s a b n hn h1n (by first | exact Hx.out.now | exact Hx.out.drew.now) (by first | exact Hx'.out.now | exact Hx'.out.drew.now)).mono ?_
  rintro e w1 ⟨rfl, hb1⟩
  replace HBa := Lib.hid (Blk.below (by exact HBa.out) hb1 (by exact HBa.out.lt))
  obtain ⟨sw1HBa0, sw1HBa1, sw1HBa2, sw1HBa3⟩ := Blk.c4 HBa.out
  replace HBb := Lib.hid (Blk.below (by exact HBb.out) hb1 (by exact HBb.out.lt))
  obtain ⟨sw1HBb0, sw1HBb1, sw1HBb2, sw1HBb3⟩ := Blk.c4 HBb.out
  replace HBr := Lib.hid (Blk.below (by exact HBr.out) hb1 (by exact HBr.out.lt))
  obtain ⟨sw1HBr0, sw1HBr1, sw1HBr2, sw1HBr3⟩ := Blk.c4 HBr.out
  obtain ⟨fw1HBr0, fw1HBr1, fw1HBr2, fw1HBr3⟩ := Blk.f4 HBr.out
  replace Hx := Lib.hid (Rests.below (φ := RatD r a n) (by first | exact Hx.out | exact Hx.out.drew) hb1)
  replace Hx' := Lib.hid (Rests.below (φ := RatD s b n) (by first | exact Hx'.out | exact Hx'.out.drew) hb1)
  replace HT := Lib.hid (Rests.below (φ := Tz) (by first | exact HT.out | exact HT.out.drew) hb1)
  replace Hbel := Lib.hid (Below.after (by first | exact Hbel.out | exact Below.drew Hbel.out) hb1)
  rw [Hc.out]
  clear hb1
  go_wp2_with fail
  refine (rnorm_any _ r a n (by omega) h1n (by first | exact Hx.out.now | exact Hx.out.drew.now) (by first | exact HT.out.now | exact HT.out.drew.now)).mono ?_
  rintro e w5 ⟨rr, rfl, hrr, hb5⟩
  have hgl := HBr.out.lt
  replace HBr := Lib.hid (Blk.below (by exact HBr.out) hb5 (by exact HBr.out.lt))
  obtain ⟨sw5HBr0, sw5HBr1, sw5HBr2, sw5HBr3⟩ := Blk.c4 HBr.out
  obtain ⟨fw5HBr0, fw5HBr1, fw5HBr2, fw5HBr3⟩ := Blk.f4 HBr.out
  replace Hbel := Lib.hid (Below.after (by first | exact Hbel.out | exact Below.drew Hbel.out) hb5)
  have Hrr := Lib.hid (hrr.mono (G := (w.heap.size + 1 + 1 + 1 ≤ ·)) (fun b hb => Nat.le_trans hgl hb))
  clear hrr hgl
  clear hb5
  rw [← Hqq.out] at Hrr
  go_wp2_with fail
  have hfin : RetR (maxQ a b) w (.returned (.agg #[.bool rr.num.neg, .slice rr.num.A rr.num.k rr.num.c, .bool rr.den.neg, .slice rr.den.A rr.den.k rr.den.c])) ((((w5.setCell ⟨w.heap.size + 1 + 1, 0, none⟩ (.bool rr.num.neg)).setCell ⟨w.heap.size + 1 + 1, 1, none⟩ (.slice rr.num.A rr.num.k rr.num.c)).setCell ⟨w.heap.size + 1 + 1, 2, none⟩ (.bool rr.den.neg)).setCell ⟨w.heap.size + 1 + 1, 3, none⟩ (.slice rr.den.A rr.den.k rr.den.c)) := ret_boxR (r := rr) (g := w.heap.size + 1 + 1) (w2 := w5) Hbel.out (by omega) Hrr.out (fun _ h => h)
  have b4 := box4 HBr.out (.bool rr.num.neg) (.slice rr.num.A rr.num.k rr.num.c) (.bool rr.den.neg) (.slice rr.den.A rr.den.k rr.den.c)
  have q0 : World.cell? ((((w5.setCell ⟨w.heap.size + 1 + 1, 0, none⟩ (.bool rr.num.neg)).setCell ⟨w.heap.size + 1 + 1, 1, none⟩ (.slice rr.num.A rr.num.k rr.num.c)).setCell ⟨w.heap.size + 1 + 1, 2, none⟩ (.bool rr.den.neg)).setCell ⟨w.heap.size + 1 + 1, 3, none⟩ (.slice rr.den.A rr.den.k rr.den.c)) ⟨w.heap.size + 1 + 1, 0, none⟩ = some (.bool rr.num.neg) := b4.cell 0
  have q1 : World.cell? ((((w5.setCell ⟨w.heap.size + 1 + 1, 0, none⟩ (.bool rr.num.neg)).setCell ⟨w.heap.size + 1 + 1, 1, none⟩ (.slice rr.num.A rr.num.k rr.num.c)).setCell ⟨w.heap.size + 1 + 1, 2, none⟩ (.bool rr.den.neg)).setCell ⟨w.heap.size + 1 + 1, 3, none⟩ (.slice rr.den.A rr.den.k rr.den.c)) ⟨w.heap.size + 1 + 1, 1, none⟩ = some (.slice rr.num.A rr.num.k rr.num.c) := b4.cell 1
  have q2 : World.cell? ((((w5.setCell ⟨w.heap.size + 1 + 1, 0, none⟩ (.bool rr.num.neg)).setCell ⟨w.heap.size + 1 + 1, 1, none⟩ (.slice rr.num.A rr.num.k rr.num.c)).setCell ⟨w.heap.size + 1 + 1, 2, none⟩ (.bool rr.den.neg)).setCell ⟨w.heap.size + 1 + 1, 3, none⟩ (.slice rr.den.A rr.den.k rr.den.c)) ⟨w.heap.size + 1 + 1, 2, none⟩ = some (.bool rr.den.neg) := b4.cell 2
  have q3 : World.cell? ((((w5.setCell ⟨w.heap.size + 1 + 1, 0, none⟩ (.bool rr.num.neg)).setCell ⟨w.heap.size + 1 + 1, 1, none⟩ (.slice rr.num.A rr.num.k rr.num.c)).setCell ⟨w.heap.size + 1 + 1, 2, none⟩ (.bool rr.den.neg)).setCell ⟨w.heap.size + 1 + 1, 3, none⟩ (.slice rr.den.A rr.den.k rr.den.c)) ⟨w.heap.size + 1 + 1, 3, none⟩ = some (.slice rr.den.A rr.den.k rr.den.c) := b4.cell 3
  clear b4 HBr Hbel
  generalize ((((w5.setCell ⟨w.heap.size + 1 + 1, 0, none⟩ (.bool rr.num.neg)).setCell ⟨w.heap.size + 1 + 1, 1, none⟩ (.slice rr.num.A rr.num.k rr.num.c)).setCell ⟨w.heap.size + 1 + 1, 2, none⟩ (.bool rr.den.neg)).setCell ⟨w.heap.size + 1 + 1, 3, none⟩ (.slice rr.den.A rr.den.k rr.den.c)) = W at *
  exact bodyPost_ret (v := .agg #[.bool rr.num.neg, .slice rr.num.A rr.num.k rr.num.c, .bool rr.den.neg, .slice rr.den.A rr.den.k rr.den.c]) (by simp [results, Tryz.results63, go_sem, q0, q1, q2, q3]) rfl hfin

set_option maxRecDepth 100000 in
set_option maxHeartbeats 1000000 in
theorem rmax_pos (w : World) (r s : RV) (a b : Rat) (n : Nat) (hn : n ≤ 400000000000) (h1n : 1 ≤ n) (h : RatD r a n w) (h' : RatD s b n w) (hT : Tz w) (hc : cmpQ a b = 1) :
    Calls Tryz.prog 63 #[.agg #[.bool r.num.neg, .slice r.num.A r.num.k r.num.c, .bool r.den.neg, .slice r.den.A r.den.k r.den.c], .agg #[.bool s.num.neg, .slice s.num.A s.num.k s.num.c, .bool s.den.neg, .slice s.den.A s.den.k s.den.c]] w (RetR (maxQ a b) w) := by
  have Hqq := Lib.hid (show maxQ a b = a from by unfold maxQ; rw [hc]; rfl)
  have Hc := Lib.hid hc
  obtain ⟨W0, hW0⟩ : ∃ W0, W0 = (((w.alloc (.cells #[.bool r.num.neg, .slice r.num.A r.num.k r.num.c, .bool r.den.neg, .slice r.den.A r.den.k r.den.c] 50)).alloc (.cells #[.bool s.num.neg, .slice s.num.A s.num.k s.num.c, .bool s.den.neg, .slice s.den.A s.den.k s.den.c] 50)).alloc (.cells #[.bool false, .slice none 0 0, .bool false, .slice none 0 0] 50)) := ⟨_, rfl⟩
  obtain ⟨p0, p1, p2, pb⟩ := lay3 hW0
  have HBa := Lib.hid p0
  have HBb := Lib.hid p1
  have HBr := Lib.hid p2
  have Hbel := Lib.hid pb
  have Hx := Lib.hid (Rests.al3 (h.old) hW0)
  have Hx' := Lib.hid (Rests.al3 (h'.old) hW0)
  have HT := Lib.hid (Rests.al3 (hT.old) hW0)
  clear p0 p1 p2 pb
  subst hW0
  have ne01 : w.heap.size ≠ w.heap.size + 1 := by omega
  have ne02 : w.heap.size ≠ w.heap.size + 1 + 1 := by omega
  have ne10 : w.heap.size + 1 ≠ w.heap.size := by omega
  have ne12 : w.heap.size + 1 ≠ w.heap.size + 1 + 1 := by omega
  have ne20 : w.heap.size + 1 + 1 ≠ w.heap.size := by omega
  have ne21 : w.heap.size + 1 + 1 ≠ w.heap.size + 1 := by omega
  clear h h' hT hc
  go_enter Tryz.func63, Tryz.ntmps63
  go_wp2_with fail
  refine (rcmp_any _ r s a b n hn h1n (by first | exact Hx.out.now | exact Hx.out.drew.now) (by first | exact Hx'.out.now | exact Hx'.out.drew.now)).mono ?_
  rintro e w1 ⟨rfl, hb1⟩
  replace HBa := Lib.hid (Blk.below (by exact HBa.out) hb1 (by exact HBa.out.lt))
  obtain ⟨sw1HBa0, sw1HBa1, sw1HBa2, sw1HBa3⟩ := Blk.c4 HBa.out
  replace HBb := Lib.hid (Blk.below (by exact HBb.out) hb1 (by exact HBb.out.lt))
  obtain ⟨sw1HBb0, sw1HBb1, sw1HBb2, sw1HBb3⟩ := Blk.c4 HBb.out
  replace HBr := Lib.hid (Blk.below (by exact HBr.out) hb1 (by exact HBr.out.lt))
  obtain ⟨sw1HBr0, sw1HBr1, sw1HBr2, sw1HBr3⟩ := Blk.c4 HBr.out
  obtain ⟨fw1HBr0, fw1HBr1, fw1HBr2, fw1HBr3⟩ := Blk.f4 HBr.out
  replace Hx := Lib.hid (Rests.below (φ := RatD r a n) (by first | exact Hx.out | exact Hx.out.drew) hb1)
  replace Hx' := Lib.hid (Rests.below (φ := RatD s b n) (by first | exact Hx'.out | exact Hx'.out.drew) hb1)
  replace HT := Lib.hid (Rests.below (φ := Tz) (by first | exact HT.out | exact HT.out.drew) hb1)
  replace Hbel := Lib.hid (Below.after (by first | exact Hbel.out | exact Below.drew Hbel.out) hb1)
  rw [Hc.out]
  clear hb1
  go_wp2_with fail
  refine (rnorm_any _ r a n (by omega) h1n (by first | exact Hx.out.now | exact Hx.out.drew.now) (by first | exact HT.out.now | exact HT.out.drew.now)).mono ?_
  rintro e w5 ⟨rr, rfl, hrr, hb5⟩
  have hgl := HBr.out.lt
  replace HBr := Lib.hid (Blk.below (by exact HBr.out) hb5 (by exact HBr.out.lt))
  obtain ⟨sw5HBr0, sw5HBr1, sw5HBr2, sw5HBr3⟩ := Blk.c4 HBr.out
  obtain ⟨fw5HBr0, fw5HBr1, fw5HBr2, fw5HBr3⟩ := Blk.f4 HBr.out
  replace Hbel := Lib.hid (Below.after (by first | exact Hbel.out | exact Below.drew Hbel.out) hb5)
  have Hrr := Lib.hid (hrr.mono (G := (w.heap.size + 1 + 1 + 1 ≤ ·)) (fun b hb => Nat.le_trans hgl hb))
  clear hrr hgl
  clear hb5
  rw [← Hqq.out] at Hrr
  go_wp2_with fail
  have hfin : RetR (maxQ a b) w (.returned (.agg #[.bool rr.num.neg, .slice rr.num.A rr.num.k rr.num.c, .bool rr.den.neg, .slice rr.den.A rr.den.k rr.den.c])) ((((w5.setCell ⟨w.heap.size + 1 + 1, 0, none⟩ (.bool rr.num.neg)).setCell ⟨w.heap.size + 1 + 1, 1, none⟩ (.slice rr.num.A rr.num.k rr.num.c)).setCell ⟨w.heap.size + 1 + 1, 2, none⟩ (.bool rr.den.neg)).setCell ⟨w.heap.size + 1 + 1, 3, none⟩ (.slice rr.den.A rr.den.k rr.den.c)) := ret_boxR (r := rr) (g := w.heap.size + 1 + 1) (w2 := w5) Hbel.out (by omega) Hrr.out (fun _ h => h)
  have b4 := box4 HBr.out (.bool rr.num.neg) (.slice rr.num.A rr.num.k rr.num.c) (.bool rr.den.neg) (.slice rr.den.A rr.den.k rr.den.c)
  have q0 : World.cell? ((((w5.setCell ⟨w.heap.size + 1 + 1, 0, none⟩ (.bool rr.num.neg)).setCell ⟨w.heap.size + 1 + 1, 1, none⟩ (.slice rr.num.A rr.num.k rr.num.c)).setCell ⟨w.heap.size + 1 + 1, 2, none⟩ (.bool rr.den.neg)).setCell ⟨w.heap.size + 1 + 1, 3, none⟩ (.slice rr.den.A rr.den.k rr.den.c)) ⟨w.heap.size + 1 + 1, 0, none⟩ = some (.bool rr.num.neg) := b4.cell 0
  have q1 : World.cell? ((((w5.setCell ⟨w.heap.size + 1 + 1, 0, none⟩ (.bool rr.num.neg)).setCell ⟨w.heap.size + 1 + 1, 1, none⟩ (.slice rr.num.A rr.num.k rr.num.c)).setCell ⟨w.heap.size + 1 + 1, 2, none⟩ (.bool rr.den.neg)).setCell ⟨w.heap.size + 1 + 1, 3, none⟩ (.slice rr.den.A rr.den.k rr.den.c)) ⟨w.heap.size + 1 + 1, 1, none⟩ = some (.slice rr.num.A rr.num.k rr.num.c) := b4.cell 1
  have q2 : World.cell? ((((w5.setCell ⟨w.heap.size + 1 + 1, 0, none⟩ (.bool rr.num.neg)).setCell ⟨w.heap.size + 1 + 1, 1, none⟩ (.slice rr.num.A rr.num.k rr.num.c)).setCell ⟨w.heap.size + 1 + 1, 2, none⟩ (.bool rr.den.neg)).setCell ⟨w.heap.size + 1 + 1, 3, none⟩ (.slice rr.den.A rr.den.k rr.den.c)) ⟨w.heap.size + 1 + 1, 2, none⟩ = some (.bool rr.den.neg) := b4.cell 2
  have q3 : World.cell? ((((w5.setCell ⟨w.heap.size + 1 + 1, 0, none⟩ (.bool rr.num.neg)).setCell ⟨w.heap.size + 1 + 1, 1, none⟩ (.slice rr.num.A rr.num.k rr.num.c)).setCell ⟨w.heap.size + 1 + 1, 2, none⟩ (.bool rr.den.neg)).setCell ⟨w.heap.size + 1 + 1, 3, none⟩ (.slice rr.den.A rr.den.k rr.den.c)) ⟨w.heap.size + 1 + 1, 3, none⟩ = some (.slice rr.den.A rr.den.k rr.den.c) := b4.cell 3
  clear b4 HBr Hbel
  generalize ((((w5.setCell ⟨w.heap.size + 1 + 1, 0, none⟩ (.bool rr.num.neg)).setCell ⟨w.heap.size + 1 + 1, 1, none⟩ (.slice rr.num.A rr.num.k rr.num.c)).setCell ⟨w.heap.size + 1 + 1, 2, none⟩ (.bool rr.den.neg)).setCell ⟨w.heap.size + 1 + 1, 3, none⟩ (.slice rr.den.A rr.den.k rr.den.c)) = W at *
  exact bodyPost_ret (v := .agg #[.bool rr.num.neg, .slice rr.num.A rr.num.k rr.num.c, .bool rr.den.neg, .slice rr.den.A rr.den.k rr.den.c]) (by simp [results, Tryz.results63, go_sem, q0, q1, q2, q3]) rfl hfin

theorem rmax_any (w : World) (r s : RV) (a b : Rat) (n : Nat) (hn : n ≤ 400000000000) (h1n : 1 ≤ n) (h : RatD r a n w) (h' : RatD s b n w) (hT : Tz w) :
    Calls Tryz.prog 63 #[.agg #[.bool r.num.neg, .slice r.num.A r.num.k r.num.c, .bool r.den.neg, .slice r.den.A r.den.k r.den.c], .agg #[.bool s.num.neg, .slice s.num.A s.num.k s.num.c, .bool s.den.neg, .slice s.den.A s.den.k s.den.c]] w (RetR (maxQ a b) w) := by
  rcases cmpQ3 a b with hc | hc | hc
  · exact rmax_neg w r s a b n hn h1n h h' hT hc
  · exact rmax_zero w r s a b n hn h1n h h' hT hc
  · exact rmax_pos w r s a b n hn h1n h h' hT hc

set_option maxRecDepth 100000 in
set_option maxHeartbeats 1000000 in
theorem rmin_neg (w : World) (r s : RV) (a b : Rat) (n : Nat) (hn : n ≤ 400000000000) (h1n : 1 ≤ n) (h : RatD r a n w) (h' : RatD s b n w) (hT : Tz w) (hc : cmpQ a b = -1) :
    Calls Tryz.prog 64 #[.agg #[.bool r.num.neg, .slice r.num.A r.num.k r.num.c, .bool r.den.neg, .slice r.den.A r.den.k r.den.c], .agg #[.bool s.num.neg, .slice s.num.A s.num.k s.num.c, .bool s.den.neg, .slice s.den.A s.den.k s.den.c]] w (RetR (minQ a b) w) := by
  have Hqq := Lib.hid (show minQ a b = a from by unfold minQ; rw [hc]; rfl)
  have Hc := Lib.hid hc
  obtain ⟨W0, hW0⟩ : ∃ W0, W0 = (((w.alloc (.cells #[.bool r.num.neg, .slice r.num.A r.num.k r.num.c, .bool r.den.neg, .slice r.den.A r.den.k r.den.c] 50)).alloc (.cells #[.bool s.num.neg, .slice s.num.A s.num.k s.num.c, .bool s.den.neg, .slice s.den.A s.den.k s.den.c] 50)).alloc (.cells #[.bool false, .slice none 0 0, .bool false, .slice none 0 0] 50)) := ⟨_, rfl⟩
  obtain ⟨p0, p1, p2, pb⟩ := lay3 hW0
  have HBa := Lib.hid p0
  have HBb := Lib.hid p1
  have HBr := Lib.hid p2
  have Hbel := Lib.hid pb
  have Hx := Lib.hid (Rests.al3 (h.old) hW0)
  have Hx' := Lib.hid (Rests.al3 (h'.old) hW0)
  have HT := Lib.hid (Rests.al3 (hT.old) hW0)
  clear p0 p1 p2 pb
  subst hW0
  have ne01 : w.heap.size ≠ w.heap.size + 1 := by omega
  have ne02 : w.heap.size ≠ w.heap.size + 1 + 1 := by omega
  have ne10 : w.heap.size + 1 ≠ w.heap.size := by omega
  have ne12 : w.heap.size + 1 ≠ w.heap.size + 1 + 1 := by omega
  have ne20 : w.heap.size + 1 + 1 ≠ w.heap.size := by omega
  have ne21 : w.heap.size + 1 + 1 ≠ w.heap.size + 1 := by omega
  clear h h' hT hc
  go_enter Tryz.func64, Tryz.ntmps64
  go_wp2_with fail
  refine (rcmp_any _ r s a b n hn h1n (by first | exact Hx.out.now | exact Hx.out.drew.now) (by first | exact Hx'.out.now | exact Hx'.out.drew.now)).mono ?_
  rintro e w1 ⟨rfl, hb1⟩
  replace HBa := Lib.hid (Blk.below (by exact HBa.out) hb1 (by exact HBa.out.lt))
  obtain ⟨sw1HBa0, sw1HBa1, sw1HBa2, sw1HBa3⟩ := Blk.c4 HBa.out
  replace HBb := Lib.hid (Blk.below (by exact HBb.out) hb1 (by exact HBb.out.lt))
  obtain ⟨sw1HBb0, sw1HBb1, sw1HBb2, sw1HBb3⟩ := Blk.c4 HBb.out
  replace HBr := Lib.hid (Blk.below (by exact HBr.out) hb1 (by exact HBr.out.lt))
  obtain ⟨sw1HBr0, sw1HBr1, sw1HBr2, sw1HBr3⟩ := Blk.c4 HBr.out
  obtain ⟨fw1HBr0, fw1HBr1, fw1HBr2, fw1HBr3⟩ := Blk.f4 HBr.out
  replace Hx := Lib.hid (Rests.below (φ := RatD r a n) (by first | exact Hx.out | exact Hx.out.drew) hb1)
  replace Hx' := Lib.hid (Rests.below (φ := RatD s b n) (by first | exact Hx'.out | exact Hx'.out.drew) hb1)
  replace HT := Lib.hid (Rests.below (φ := Tz) (by first | exact HT.out | exact HT.out.drew) hb1)
  replace Hbel := Lib.hid (Below.after (by first | exact Hbel.out | exact Below.drew Hbel.out) hb1)
  rw [Hc.out]
  clear hb1
  go_wp2_with fail
  refine (rnorm_any _ r a n (by omega) h1n (by first | exact Hx.out.now | exact Hx.out.drew.now) (by first | exact HT.out.now | exact HT.out.drew.now)).mono ?_
  rintro e w5 ⟨rr, rfl, hrr, hb5⟩
  have hgl := HBr.out.lt
  replace HBr := Lib.hid (Blk.below (by exact HBr.out) hb5 (by exact HBr.out.lt))
  obtain ⟨sw5HBr0, sw5HBr1, sw5HBr2, sw5HBr3⟩ := Blk.c4 HBr.out
  obtain ⟨fw5HBr0, fw5HBr1, fw5HBr2, fw5HBr3⟩ := Blk.f4 HBr.out
  replace Hbel := Lib.hid (Below.after (by first | exact Hbel.out | exact Below.drew Hbel.out) hb5)
  have Hrr := Lib.hid (hrr.mono (G := (w.heap.size + 1 + 1 + 1 ≤ ·)) (fun b hb => Nat.le_trans hgl hb))
  clear hrr hgl
  clear hb5
  rw [← Hqq.out] at Hrr
  go_wp2_with fail
  have hfin : RetR (minQ a b) w (.returned (.agg #[.bool rr.num.neg, .slice rr.num.A rr.num.k rr.num.c, .bool rr.den.neg, .slice rr.den.A rr.den.k rr.den.c])) ((((w5.setCell ⟨w.heap.size + 1 + 1, 0, none⟩ (.bool rr.num.neg)).setCell ⟨w.heap.size + 1 + 1, 1, none⟩ (.slice rr.num.A rr.num.k rr.num.c)).setCell ⟨w.heap.size + 1 + 1, 2, none⟩ (.bool rr.den.neg)).setCell ⟨w.heap.size + 1 + 1, 3, none⟩ (.slice rr.den.A rr.den.k rr.den.c)) := ret_boxR (r := rr) (g := w.heap.size + 1 + 1) (w2 := w5) Hbel.out (by omega) Hrr.out (fun _ h => h)
  have b4 := box4 HBr.out (.bool rr.num.neg) (.slice rr.num.A rr.num.k rr.num.c) (.bool rr.den.neg) (.slice rr.den.A rr.den.k rr.den.c)
  have q0 : World.cell? ((((w5.setCell ⟨w.heap.size + 1 + 1, 0, none⟩ (.bool rr.num.neg)).setCell ⟨w.heap.size + 1 + 1, 1, none⟩ (.slice rr.num.A rr.num.k rr.num.c)).setCell ⟨w.heap.size + 1 + 1, 2, none⟩ (.bool rr.den.neg)).setCell ⟨w.heap.size + 1 + 1, 3, none⟩ (.slice rr.den.A rr.den.k rr.den.c)) ⟨w.heap.size + 1 + 1, 0, none⟩ = some (.bool rr.num.neg) := b4.cell 0
  have q1 : World.cell? ((((w5.setCell ⟨w.heap.size + 1 + 1, 0, none⟩ (.bool rr.num.neg)).setCell ⟨w.heap.size + 1 + 1, 1, none⟩ (.slice rr.num.A rr.num.k rr.num.c)).setCell ⟨w.heap.size + 1 + 1, 2, none⟩ (.bool rr.den.neg)).setCell ⟨w.heap.size + 1 + 1, 3, none⟩ (.slice rr.den.A rr.den.k rr.den.c)) ⟨w.heap.size + 1 + 1, 1, none⟩ = some (.slice rr.num.A rr.num.k rr.num.c) := b4.cell 1
  have q2 : World.cell? ((((w5.setCell ⟨w.heap.size + 1 + 1, 0, none⟩ (.bool rr.num.neg)).setCell ⟨w.heap.size + 1 + 1, 1, none⟩ (.slice rr.num.A rr.num.k rr.num.c)).setCell ⟨w.heap.size + 1 + 1, 2, none⟩ (.bool rr.den.neg)).setCell ⟨w.heap.size + 1 + 1, 3, none⟩ (.slice rr.den.A rr.den.k rr.den.c)) ⟨w.heap.size + 1 + 1, 2, none⟩ = some (.bool rr.den.neg) := b4.cell 2
  have q3 : World.cell? ((((w5.setCell ⟨w.heap.size + 1 + 1, 0, none⟩ (.bool rr.num.neg)).setCell ⟨w.heap.size + 1 + 1, 1, none⟩ (.slice rr.num.A rr.num.k rr.num.c)).setCell ⟨w.heap.size + 1 + 1, 2, none⟩ (.bool rr.den.neg)).setCell ⟨w.heap.size + 1 + 1, 3, none⟩ (.slice rr.den.A rr.den.k rr.den.c)) ⟨w.heap.size + 1 + 1, 3, none⟩ = some (.slice rr.den.A rr.den.k rr.den.c) := b4.cell 3
  clear b4 HBr Hbel
  generalize ((((w5.setCell ⟨w.heap.size + 1 + 1, 0, none⟩ (.bool rr.num.neg)).setCell ⟨w.heap.size + 1 + 1, 1, none⟩ (.slice rr.num.A rr.num.k rr.num.c)).setCell ⟨w.heap.size + 1 + 1, 2, none⟩ (.bool rr.den.neg)).setCell ⟨w.heap.size + 1 + 1, 3, none⟩ (.slice rr.den.A rr.den.k rr.den.c)) = W at *
  exact bodyPost_ret (v := .agg #[.bool rr.num.neg, .slice rr.num.A rr.num.k rr.num.c, .bool rr.den.neg, .slice rr.den.A rr.den.k rr.den.c]) (by simp [results, Tryz.results64, go_sem, q0, q1, q2, q3]) rfl hfin

set_option maxRecDepth 100000 in
set_option maxHeartbeats 1000000 in
theorem rmin_zero (w : World) (r s : RV) (a b : Rat) (n : Nat) (hn : n ≤ 400000000000) (h1n : 1 ≤ n) (h : RatD r a n w) (h' : RatD s b n w) (hT : Tz w) (hc : cmpQ a b = 0) :
    Calls Tryz.prog 64 #[.agg #[.bool r.num.neg, .slice r.num.A r.num.k r.num.c, .bool r.den.neg, .slice r.den.A r.den.k r.den.c], .agg #[.bool s.num.neg, .slice s.num.A s.num.k s.num.c, .bool s.den.neg, .slice s.den.A s.den.k s.den.c]] w (RetR (minQ a b) w) := by
  have Hqq := Lib.hid (show minQ a b = a from by unfold minQ; rw [hc]; rfl)
  have Hc := Lib.hid hc
  obtain ⟨W0, hW0⟩ : ∃ W0, W0 = (((w.alloc (.cells #[.bool r.num.neg, .slice r.num.A r.num.k r.num.c, .bool r.den.neg, .slice r.den.A r.den.k r.den.c] 50)).alloc (.cells #[.bool s.num.neg, .slice s.num.A s.num.k s.num.c, .bool s.den.neg, .slice s.den.A s.den.k s.den.c] 50)).alloc (.cells #[.bool false, .slice none 0 0, .bool false, .slice none 0 0] 50)) := ⟨_, rfl⟩
  obtain ⟨p0, p1, p2, pb⟩ := lay3 hW0
  have HBa := Lib.hid p0
  have HBb := Lib.hid p1
  have HBr := Lib.hid p2
  have Hbel := Lib.hid pb
  have Hx := Lib.hid (Rests.al3 (h.old) hW0)
  have Hx' := Lib.hid (Rests.al3 (h'.old) hW0)
  have HT := Lib.hid (Rests.al3 (hT.old) hW0)
  clear p0 p1 p2 pb
  subst hW0
  have ne01 : w.heap.size ≠ w.heap.size + 1 := by omega
  have ne02 : w.heap.size ≠ w.heap.size + 1 + 1 := by omega
  have ne10 : w.heap.size + 1 ≠ w.heap.size := by omega
  have ne12 : w.heap.size + 1 ≠ w.heap.size + 1 + 1 := by omega
  have ne20 : w.heap.size + 1 + 1 ≠ w.heap.size := by omega
  have ne21 : w.heap.size + 1 + 1 ≠ w.heap.size + 1 := by omega
  clear h h' hT hc
  go_enter Tryz.func64, Tryz.ntmps64
  go_wp2_with fail
  refine (rcmp_any _ r s a b n hn h1n (by first | exact Hx.out.now | exact Hx.out.drew.now) (by first | exact Hx'.out.now | exact Hx'.out.drew.now)).mono ?_
  rintro e w1 ⟨rfl, hb1⟩
  replace HBa := Lib.hid (Blk.below (by exact HBa.out) hb1 (by exact HBa.out.lt))
  obtain ⟨sw1HBa0, sw1HBa1, sw1HBa2, sw1HBa3⟩ := Blk.c4 HBa.out
  replace HBb := Lib.hid (Blk.below (by exact HBb.out) hb1 (by exact HBb.out.lt))
  obtain ⟨sw1HBb0, sw1HBb1, sw1HBb2, sw1HBb3⟩ := Blk.c4 HBb.out
  replace HBr := Lib.hid (Blk.below (by exact HBr.out) hb1 (by exact HBr.out.lt))
  obtain ⟨sw1HBr0, sw1HBr1, sw1HBr2, sw1HBr3⟩ := Blk.c4 HBr.out
  obtain ⟨fw1HBr0, fw1HBr1, fw1HBr2, fw1HBr3⟩ := Blk.f4 HBr.out
  replace Hx := Lib.hid (Rests.below (φ := RatD r a n) (by first | exact Hx.out | exact Hx.out.drew) hb1)
  replace Hx' := Lib.hid (Rests.below (φ := RatD s b n) (by first | exact Hx'.out | exact Hx'.out.drew) hb1)
  replace HT := Lib.hid (Rests.below (φ := Tz) (by first | exact HT.out | exact HT.out.drew) hb1)
  replace Hbel := Lib.hid (Below.after (by first | exact Hbel.out | exact Below.drew Hbel.out) hb1)
  rw [Hc.out]
  clear hb1
  go_wp2_with fail
  refine (rnorm_any _ r a n (by omega) h1n (by first | exact Hx.out.now | exact Hx.out.drew.now) (by first | exact HT.out.now | exact HT.out.drew.now)).mono ?_
  rintro e w5 ⟨rr, rfl, hrr, hb5⟩
  have hgl := HBr.out.lt
  replace HBr := Lib.hid (Blk.below (by exact HBr.out) hb5 (by exact HBr.out.lt))
  obtain ⟨sw5HBr0, sw5HBr1, sw5HBr2, sw5HBr3⟩ := Blk.c4 HBr.out
  obtain ⟨fw5HBr0, fw5HBr1, fw5HBr2, fw5HBr3⟩ := Blk.f4 HBr.out
  replace Hbel := Lib.hid (Below.after (by first | exact Hbel.out | exact Below.drew Hbel.out) hb5)
  have Hrr := Lib.hid (hrr.mono (G := (w.heap.size + 1 + 1 + 1 ≤ ·)) (fun b hb => Nat.le_trans hgl hb))
  clear hrr hgl
  clear hb5
  rw [← Hqq.out] at Hrr
  go_wp2_with fail
  have hfin : RetR (minQ a b) w (.returned (.agg #[.bool rr.num.neg, .slice rr.num.A rr.num.k rr.num.c, .bool rr.den.neg, .slice rr.den.A rr.den.k rr.den.c])) ((((w5.setCell ⟨w.heap.size + 1 + 1, 0, none⟩ (.bool rr.num.neg)).setCell ⟨w.heap.size + 1 + 1, 1, none⟩ (.slice rr.num.A rr.num.k rr.num.c)).setCell ⟨w.heap.size + 1 + 1, 2, none⟩ (.bool rr.den.neg)).setCell ⟨w.heap.size + 1 + 1, 3, none⟩ (.slice rr.den.A rr.den.k rr.den.c)) := ret_boxR (r := rr) (g := w.heap.size + 1 + 1) (w2 := w5) Hbel.out (by omega) Hrr.out (fun _ h => h)
  have b4 := box4 HBr.out (.bool rr.num.neg) (.slice rr.num.A rr.num.k rr.num.c) (.bool rr.den.neg) (.slice rr.den.A rr.den.k rr.den.c)
  have q0 : World.cell? ((((w5.setCell ⟨w.heap.size + 1 + 1, 0, none⟩ (.bool rr.num.neg)).setCell ⟨w.heap.size + 1 + 1, 1, none⟩ (.slice rr.num.A rr.num.k rr.num.c)).setCell ⟨w.heap.size + 1 + 1, 2, none⟩ (.bool rr.den.neg)).setCell ⟨w.heap.size + 1 + 1, 3, none⟩ (.slice rr.den.A rr.den.k rr.den.c)) ⟨w.heap.size + 1 + 1, 0, none⟩ = some (.bool rr.num.neg) := b4.cell 0
  have q1 : World.cell? ((((w5.setCell ⟨w.heap.size + 1 + 1, 0, none⟩ (.bool rr.num.neg)).setCell ⟨w.heap.size + 1 + 1, 1, none⟩ (.slice rr.num.A rr.num.k rr.num.c)).setCell ⟨w.heap.size + 1 + 1, 2, none⟩ (.bool rr.den.neg)).setCell ⟨w.heap.size + 1 + 1, 3, none⟩ (.slice rr.den.A rr.den.k rr.den.c)) ⟨w.heap.size + 1 + 1, 1, none⟩ = some (.slice rr.num.A rr.num.k rr.num.c) := b4.cell 1
  have q2 : World.cell? ((((w5.setCell ⟨w.heap.size + 1 + 1, 0, none⟩ (.bool rr.num.neg)).setCell ⟨w.heap.size + 1 + 1, 1, none⟩ (.slice rr.num.A rr.num.k rr.num.c)).setCell ⟨w.heap.size + 1 + 1, 2, none⟩ (.bool rr.den.neg)).setCell ⟨w.heap.size + 1 + 1, 3, none⟩ (.slice rr.den.A rr.den.k rr.den.c)) ⟨w.heap.size + 1 + 1, 2, none⟩ = some (.bool rr.den.neg) := b4.cell 2
  have q3 : World.cell? ((((w5.setCell ⟨w.heap.size + 1 + 1, 0, none⟩ (.bool rr.num.neg)).setCell ⟨w.heap.size + 1 + 1, 1, none⟩ (.slice rr.num.A rr.num.k rr.num.c)).setCell ⟨w.heap.size + 1 + 1, 2, none⟩ (.bool rr.den.neg)).setCell ⟨w.heap.size + 1 + 1, 3, none⟩ (.slice rr.den.A rr.den.k rr.den.c)) ⟨w.heap.size + 1 + 1, 3, none⟩ = some (.slice rr.den.A rr.den.k rr.den.c) := b4.cell 3
  clear b4 HBr Hbel
  generalize ((((w5.setCell ⟨w.heap.size + 1 + 1, 0, none⟩ (.bool rr.num.neg)).setCell ⟨w.heap.size + 1 + 1, 1, none⟩ (.slice rr.num.A rr.num.k rr.num.c)).setCell ⟨w.heap.size + 1 + 1, 2, none⟩ (.bool rr.den.neg)).setCell ⟨w.heap.size + 1 + 1, 3, none⟩ (.slice rr.den.A rr.den.k rr.den.c)) = W at *
  exact bodyPost_ret (v := .agg #[.bool rr.num.neg, .slice rr.num.A rr.num.k rr.num.c, .bool rr.den.neg, .slice rr.den.A rr.den.k rr.den.c]) (by simp [results, Tryz.results64, go_sem, q0, q1, q2, q3]) rfl hfin

set_option maxRecDepth 100000 in
set_option maxHeartbeats 1000000 in
theorem rmin_pos (w : World) (r s : RV) (a b : Rat) (n : Nat) (hn : n ≤ 400000000000) (h1n : 1 ≤ n) (h : RatD r a n w) (h' : RatD s b n w) (hT : Tz w) (hc : cmpQ a b = 1) :
    Calls Tryz.prog 64 #[.agg #[.bool r.num.neg, .slice r.num.A r.num.k r.num.c, .bool r.den.neg, .slice r.den.A r.den.k r.den.c], .agg #[.bool s.num.neg, .slice s.num.A s.num.k s.num.c, .bool s.den.neg, .slice s.den.A s.den.k s.den.c]] w (RetR (minQ a b) w) := by
  have Hqq := Lib.hid (show minQ a b = b from by unfold minQ; rw [hc]; rfl)
  have Hc := Lib.hid hc
  obtain ⟨W0, hW0⟩ : ∃ W0, W0 = (((w.alloc (.cells #[.bool r.num.neg, .slice r.num.A r.num.k r.num.c, .bool r.den.neg, .slice r.den.A r.den.k r.den.c] 50)).alloc (.cells #[.bool s.num.neg, .slice s.num.A s.num.k s.num.c, .bool s.den.neg, .slice s.den.A s.den.k s.den.c] 50)).alloc (.cells #[.bool false, .slice none 0 0, .bool false, .slice none 0 0] 50)) := ⟨_, rfl⟩
  obtain ⟨p0, p1, p2, pb⟩ := lay3 hW0
  have HBa := Lib.hid p0
  have HBb := Lib.hid p1
  have HBr := Lib.hid p2
  have Hbel := Lib.hid pb
  have Hx := Lib.hid (Rests.al3 (h.old) hW0)
  have Hx' := Lib.hid (Rests.al3 (h'.old) hW0)
  have HT := Lib.hid (Rests.al3 (hT.old) hW0)
  clear p0 p1 p2 pb
  subst hW0
  have ne01 : w.heap.size ≠ w.heap.size + 1 := by omega
  have ne02 : w.heap.size ≠ w.heap.size + 1 + 1 := by omega
  have ne10 : w.heap.size + 1 ≠ w.heap.size := by omega
  have ne12 : w.heap.size + 1 ≠ w.heap.size + 1 + 1 := by omega
  have ne20 : w.heap.size + 1 + 1 ≠ w.heap.size := by omega
  have ne21 : w.heap.size + 1 + 1 ≠ w.heap.size + 1 := by omega
  clear h h' hT hc
  go_enter Tryz.func64, Tryz.ntmps64
  go_wp2_with fail
  refine (rcmp_any _ r s a b n hn h1n (by first | exact Hx.out.now | exact Hx.out.drew.now) (by first | exact Hx'.out.now | exact Hx'.out.drew.now)).mono ?_
  rintro e w1 ⟨rfl, hb1⟩
  replace HBa := Lib.hid (Blk.below (by exact HBa.out) hb1 (by exact HBa.out.lt))
  obtain ⟨sw1HBa0, sw1HBa1, sw1HBa2, sw1HBa3⟩ := Blk.c4 HBa.out
  replace HBb := Lib.hid (Blk.below (by exact HBb.out) hb1 (by exact HBb.out.lt))
  obtain ⟨sw1HBb0, sw1HBb1, sw1HBb2, sw1HBb3⟩ := Blk.c4 HBb.out
  replace HBr := Lib.hid (Blk.below (by exact HBr.out) hb1 (by exact HBr.out.lt))
  obtain ⟨sw1HBr0, sw1HBr1, sw1HBr2, sw1HBr3⟩ := Blk.c4 HBr.out
  obtain ⟨fw1HBr0, fw1HBr1, fw1HBr2, fw1HBr3⟩ := Blk.f4 HBr.out
  replace Hx := Lib.hid (Rests.below (φ := RatD r a n) (by first | exact Hx.out | exact Hx.out.drew) hb1)
  replace Hx' := Lib.hid (Rests.below (φ := RatD s b n) (by first | exact Hx'.out | exact Hx'.out.drew) hb1)
  replace HT := Lib.hid (Rests.below (φ := Tz) (by first | exact HT.out | exact HT.out.drew) hb1)
  replace Hbel := Lib.hid (Below.after (by first | exact Hbel.out | exact Below.drew Hbel.out) hb1)
  rw [Hc.out]
  clear hb1
  go_wp2_with fail
  refine (rnorm_any _ s b n (by omega) h1n (by first | exact Hx'.out.now | exact Hx'.out.drew.now) (by first | exact HT.out.now | exact HT.out.drew.now)).mono ?_
  rintro e w5 ⟨rr, rfl, hrr, hb5⟩
  have hgl := HBr.out.lt
  replace HBr := Lib.hid (Blk.below (by exact HBr.out) hb5 (by exact HBr.out.lt))
  obtain ⟨sw5HBr0, sw5HBr1, sw5HBr2, sw5HBr3⟩ := Blk.c4 HBr.out
  obtain ⟨fw5HBr0, fw5HBr1, fw5HBr2, fw5HBr3⟩ := Blk.f4 HBr.out
  replace Hbel := Lib.hid (Below.after (by first | exact Hbel.out | exact Below.drew Hbel.out) hb5)
  have Hrr := Lib.hid (hrr.mono (G := (w.heap.size + 1 + 1 + 1 ≤ ·)) (fun b hb => Nat.le_trans hgl hb))
  clear hrr hgl
  clear hb5
  rw [← Hqq.out] at Hrr
  go_wp2_with fail
  have hfin : RetR (minQ a b) w (.returned (.agg #[.bool rr.num.neg, .slice rr.num.A rr.num.k rr.num.c, .bool rr.den.neg, .slice rr.den.A rr.den.k rr.den.c])) ((((w5.setCell ⟨w.heap.size + 1 + 1, 0, none⟩ (.bool rr.num.neg)).setCell ⟨w.heap.size + 1 + 1, 1, none⟩ (.slice rr.num.A rr.num.k rr.num.c)).setCell ⟨w.heap.size + 1 + 1, 2, none⟩ (.bool rr.den.neg)).setCell ⟨w.heap.size + 1 + 1, 3, none⟩ (.slice rr.den.A rr.den.k rr.den.c)) := ret_boxR (r := rr) (g := w.heap.size + 1 + 1) (w2 := w5) Hbel.out (by omega) Hrr.out (fun _ h => h)
  have b4 := box4 HBr.out (.bool rr.num.neg) (.slice rr.num.A rr.num.k rr.num.c) (.bool rr.den.neg) (.slice rr.den.A rr.den.k rr.den.c)
  have q0 : World.cell? ((((w5.setCell ⟨w.heap.size + 1 + 1, 0, none⟩ (.bool rr.num.neg)).setCell ⟨w.heap.size + 1 + 1, 1, none⟩ (.slice rr.num.A rr.num.k rr.num.c)).setCell ⟨w.heap.size + 1 + 1, 2, none⟩ (.bool rr.den.neg)).setCell ⟨w.heap.size + 1 + 1, 3, none⟩ (.slice rr.den.A rr.den.k rr.den.c)) ⟨w.heap.size + 1 + 1, 0, none⟩ = some (.bool rr.num.neg) := b4.cell 0
  have q1 : World.cell? ((((w5.setCell ⟨w.heap.size + 1 + 1, 0, none⟩ (.bool rr.num.neg)).setCell ⟨w.heap.size + 1 + 1, 1, none⟩ (.slice rr.num.A rr.num.k rr.num.c)).setCell ⟨w.heap.size + 1 + 1, 2, none⟩ (.bool rr.den.neg)).setCell ⟨w.heap.size + 1 + 1, 3, none⟩ (.slice rr.den.A rr.den.k rr.den.c)) ⟨w.heap.size + 1 + 1, 1, none⟩ = some (.slice rr.num.A rr.num.k rr.num.c) := b4.cell 1
  have q2 : World.cell? ((((w5.setCell ⟨w.heap.size + 1 + 1, 0, none⟩ (.bool rr.num.neg)).setCell ⟨w.heap.size + 1 + 1, 1, none⟩ (.slice rr.num.A rr.num.k rr.num.c)).setCell ⟨w.heap.size + 1 + 1, 2, none⟩ (.bool rr.den.neg)).setCell ⟨w.heap.size + 1 + 1, 3, none⟩ (.slice rr.den.A rr.den.k rr.den.c)) ⟨w.heap.size + 1 + 1, 2, none⟩ = some (.bool rr.den.neg) := b4.cell 2
  have q3 : World.cell? ((((w5.setCell ⟨w.heap.size + 1 + 1, 0, none⟩ (.bool rr.num.neg)).setCell ⟨w.heap.size + 1 + 1, 1, none⟩ (.slice rr.num.A rr.num.k rr.num.c)).setCell ⟨w.heap.size + 1 + 1, 2, none⟩ (.bool rr.den.neg)).setCell ⟨w.heap.size + 1 + 1, 3, none⟩ (.slice rr.den.A rr.den.k rr.den.c)) ⟨w.heap.size + 1 + 1, 3, none⟩ = some (.slice rr.den.A rr.den.k rr.den.c) := b4.cell 3
  clear b4 HBr Hbel
  generalize ((((w5.setCell ⟨w.heap.size + 1 + 1, 0, none⟩ (.bool rr.num.neg)).setCell ⟨w.heap.size + 1 + 1, 1, none⟩ (.slice rr.num.A rr.num.k rr.num.c)).setCell ⟨w.heap.size + 1 + 1, 2, none⟩ (.bool rr.den.neg)).setCell ⟨w.heap.size + 1 + 1, 3, none⟩ (.slice rr.den.A rr.den.k rr.den.c)) = W at *
  exact bodyPost_ret (v := .agg #[.bool rr.num.neg, .slice rr.num.A rr.num.k rr.num.c, .bool rr.den.neg, .slice rr.den.A rr.den.k rr.den.c]) (by simp [results, Tryz.results64, go_sem, q0, q1, q2, q3]) rfl hfin

theorem rmin_any (w : World) (r s : RV) (a b : Rat) (n : Nat) (hn : n ≤ 400000000000) (h1n : 1 ≤ n) (h : RatD r a n w) (h' : RatD s b n w) (hT : Tz w) :
    Calls Tryz.prog 64 #[.agg #[.bool r.num.neg, .slice r.num.A r.num.k r.num.c, .bool r.den.neg, .slice r.den.A r.den.k r.den.c], .agg #[.bool s.num.neg, .slice s.num.A s.num.k s.num.c, .bool s.den.neg, .slice s.den.A s.den.k s.den.c]] w (RetR (minQ a b) w) := by
  rcases cmpQ3 a b with hc | hc | hc
  · exact rmin_neg w r s a b n hn h1n h h' hT hc
  · exact rmin_zero w r s a b n hn h1n h h' hT hc
  · exact rmin_pos w r s a b n hn h1n h h' hT hc
end Go.Proofs.YtgghdedabpohbaaGreatDoor
namespace Go.Proofs.YtgghdedabpohbaaGreatDoor
open Go.RowKit

theorem floor_eq {a : Rat} {p d : Int} (hd : 0 < d) (h : a = Rat.divInt p d) : a.floor = p / d := by
  have ha : 0 < (a.den : Int) := Int.natCast_pos.2 a.den_pos
  have e : a.num * d = p * a.den := by
    rw [← Rat.divInt_eq_divInt_iff (by omega) (by omega), Rat.num_divInt_den, ← h]
  rw [Rat.floor_def, ← Int.mul_ediv_mul_of_pos_left a.num a.den hd, e, Int.mul_comm (a.den : Int) d, Int.mul_ediv_mul_of_pos_left p d ha]

set_option maxRecDepth 100000 in
set_option maxHeartbeats 4000000 in
theorem rfloor_any (w : World) (r : RV) (a : Rat) (n : Nat) (hn : n ≤ 400000000000) (h1n : 1 ≤ n) (h : RatD r a n w) :
    Calls Tryz.prog 50 #[.agg #[.bool r.num.neg, .slice r.num.A r.num.k r.num.c, .bool r.den.neg, .slice r.den.A r.den.k r.den.c]] w (RetZ a.floor w) := by
  obtain ⟨x, d, hx, hd, hq⟩ := h.ex
  have Hqq := Lib.hid (floor_eq (paD_pos r d) (hq.trans (pa_eq r x d).symm))
  have Hne := Lib.hid (show paD r d ≠ 0 from by have := paD_pos r d; omega)
  obtain ⟨W0, hW0⟩ : ∃ W0, W0 = ((w.alloc (.cells #[.bool r.num.neg, .slice r.num.A r.num.k r.num.c, .bool r.den.neg, .slice r.den.A r.den.k r.den.c] 50)).alloc (.cells #[.bool false, .slice none 0 0] 48)) := ⟨_, rfl⟩
  obtain ⟨p0, p1, pb⟩ := lay2 hW0
  have HBa := Lib.hid p0
  have HBr := Lib.hid p1
  have Hbel := Lib.hid pb
  have Hx := Lib.hid (Rests.al2 (hx.old) hW0)
  have Hd := Lib.hid (Rests.al2 (hd.old) hW0)
  clear p0 p1 pb
  subst hW0
  have ne01 : w.heap.size ≠ w.heap.size + 1 := by omega
  have ne10 : w.heap.size + 1 ≠ w.heap.size := by omega
  clear h hx hd hq
  go_enter Tryz.func50, Tryz.ntmps50
  go_wp2_with fail
  refine (parts_any _ r x d n (· < w.heap.size) (fun b hb => Nat.lt_of_lt_of_le hb Hbel.out.size) (by omega) h1n Hx.out Hd.out).mono ?_
  rintro e w1 ⟨p1, e1, rfl, hp, he, hb1⟩
  replace HBr := Lib.hid (Blk.below (by exact HBr.out) hb1 (by exact HBr.out.lt))
  obtain ⟨sw1HBr0, sw1HBr1⟩ := Blk.c2 HBr.out
  obtain ⟨fw1HBr0, fw1HBr1⟩ := Blk.f2 HBr.out
  replace Hbel := Lib.hid (Below.after (by first | exact Hbel.out | exact Below.drew Hbel.out) hb1)
  have Hp1 := Lib.hid hp
  have He1 := Lib.hid he
  clear hp he
  clear hb1
  go_wp2_with fail
  refine (wdivMod_any _ p1 e1 (paN r x d) (paD r d) n n (by omega) (by omega) (by first | exact Hp1.out.now | exact Hp1.out.drew.now) (by first | exact He1.out.now | exact He1.out.drew.now) Hne.out).mono ?_
  rintro e w2 ⟨k, k2, rfl, hk, hk2, hb2⟩
  have hgl := HBr.out.lt
  replace HBr := Lib.hid (Blk.below (by exact HBr.out) hb2 (by exact HBr.out.lt))
  obtain ⟨sw2HBr0, sw2HBr1⟩ := Blk.c2 HBr.out
  obtain ⟨fw2HBr0, fw2HBr1⟩ := Blk.f2 HBr.out
  replace Hbel := Lib.hid (Below.after (by first | exact Hbel.out | exact Below.drew Hbel.out) hb2)
  have Hk := Lib.hid (hk.mono (G := (w.heap.size + 1 + 1 ≤ ·)) (fun b hb => Nat.le_trans hgl hb))
  clear hk hk2 hgl
  clear hb2
  rw [← Hqq.out] at Hk
  have lr : w.heap.size + 1 < w2.heap.size := HBr.out.lt
  have nr0 : w.heap.size + 1 ≠ w2.heap.size := by omega
  have nr1 : w2.heap.size ≠ w.heap.size + 1 := by omega
  have nr2 : w.heap.size + 1 ≠ w2.heap.size + 1 := by omega
  have nr3 : w2.heap.size + 1 ≠ w.heap.size + 1 := by omega
  have nr4 : w.heap.size ≠ w2.heap.size := by omega
  have nr5 : w2.heap.size ≠ w.heap.size := by omega
  replace HBr := Lib.hid ((HBr.out.alloc (.cells #[.bool k.neg, .slice k.A k.k k.c] 48)).alloc (.cells #[.bool k2.neg, .slice k2.A k2.k k2.c] 48))
  replace Hk := Lib.hid ((Hk.out.alloc (.cells #[.bool k.neg, .slice k.A k.k k.c] 48)).alloc (.cells #[.bool k2.neg, .slice k2.A k2.k k2.c] 48))
  replace Hbel := Lib.hid ((Hbel.out.alloc Hbel.out.size (.cells #[.bool k.neg, .slice k.A k.k k.c] 48)).alloc (Nat.le_trans Hbel.out.size (by simp)) (.cells #[.bool k2.neg, .slice k2.A k2.k k2.c] 48))
  have HP := Lib.hid ((Blk.new w2 48 #[.bool k.neg, .slice k.A k.k k.c]).alloc (.cells #[.bool k2.neg, .slice k2.A k2.k k2.c] 48))
  have yP0 : World.cell? _ ⟨w2.heap.size, 0, none⟩ = some (.bool k.neg) := HP.out.cell 0
  have yP1 : World.cell? _ ⟨w2.heap.size, 1, none⟩ = some (.slice k.A k.k k.c) := HP.out.cell 1
  have yR0 : World.cell? _ ⟨w.heap.size + 1, 0, none⟩ = some (.bool false) := HBr.out.cell 0
  have fR0 : World.frozen? _ ⟨w.heap.size + 1, 0, none⟩ = false := HBr.out.frozen 0
  have yR1 : World.cell? _ ⟨w.heap.size + 1, 1, none⟩ = some (.slice none 0 0) := HBr.out.cell 1
  have fR1 : World.frozen? _ ⟨w.heap.size + 1, 1, none⟩ = false := HBr.out.frozen 1
  go_wp2_with fail
  have hfin := ret_boxK (g := w.heap.size + 1) Hbel.out (by omega) Hk.out (fun _ h => h)
  obtain ⟨q0, q1⟩ := box2 HBr.out (.bool k.neg) (.slice k.A k.k k.c)
  clear HBr Hbel Hk HP
  generalize ((((w2.alloc (.cells #[.bool k.neg, .slice k.A k.k k.c] 48)).alloc (.cells #[.bool k2.neg, .slice k2.A k2.k k2.c] 48)).setCell ⟨w.heap.size + 1, 0, none⟩ (.bool k.neg)).setCell ⟨w.heap.size + 1, 1, none⟩ (.slice k.A k.k k.c)) = W at *
  exact bodyPost_ret (v := .agg #[.bool k.neg, .slice k.A k.k k.c]) (by simp [results, Tryz.results50, go_sem, q0, q1]) rfl hfin
end Go.Proofs.YtgghdedabpohbaaGreatDoor
namespace Go.Proofs.YtgghdedabpohbaaGreatDoor
open Go.RowKit

theorem whole_iff {a : Rat} {p d : Int} (hd : 0 < d) (h : a = Rat.divInt p d) : p % d = 0 ↔ a.den = 1 := by
  have ha : 0 < (a.den : Int) := Int.natCast_pos.2 a.den_pos
  have e : a.num * d = p * a.den := by
    rw [← Rat.divInt_eq_divInt_iff (by omega) (by omega), Rat.num_divInt_den, ← h]
  constructor
  · intro h0
    obtain ⟨q, hq⟩ := Int.dvd_of_emod_eq_zero h0
    have e2 : a.num = q * a.den := by
      have : a.num * d = (q * a.den) * d := by rw [e, hq]; grind
      exact Int.eq_of_mul_eq_mul_right (by omega) this
    have hdv : a.den ∣ a.num.natAbs := by
      rw [e2, Int.natAbs_mul, Int.natAbs_natCast]; exact Nat.dvd_mul_left _ _
    have hr := a.reduced
    unfold Nat.Coprime at hr
    rw [Nat.gcd_eq_right hdv] at hr
    exact hr
  · intro h1
    rw [h1] at e
    have : p = d * a.num := by simp at e; rw [← e, Int.mul_comm]
    rw [this]; exact Int.mul_emod_right d _
theorem whole_sign {a : Rat} {p d : Int} (hd : 0 < d) (h : a = Rat.divInt p d) : ((p % d).sign == 0) = decide (a.den = 1) := by
  have k := whole_iff hd h
  by_cases h0 : p % d = 0
  · rw [h0, decide_eq_true (k.1 h0)]; rfl
  · rw [decide_eq_false (fun e => h0 (k.2 e))]; simp [Int.sign_eq_zero_iff_zero, h0]
theorem rest_lt {p d : Int} {n : Nat} (hd : 0 < d) (h : d.natAbs < B64 ^ n) : (p % d).natAbs < B64 ^ n := by
  have h1 := Int.emod_nonneg p (show d ≠ 0 by omega)
  have h2 := Int.emod_lt_of_pos p hd
  omega

set_option maxRecDepth 100000 in
set_option maxHeartbeats 4000000 in
theorem rwholeis_any (w : World) (r : RV) (a : Rat) (n : Nat) (hn : n ≤ 400000000000) (h1n : 1 ≤ n) (h : RatD r a n w) :
    Calls Tryz.prog 65 #[.agg #[.bool r.num.neg, .slice r.num.A r.num.k r.num.c, .bool r.den.neg, .slice r.den.A r.den.k r.den.c]] w fun e w' => e = .returned (.bool (decide (a.den = 1))) ∧ Below w.heap.size w w' := by
  obtain ⟨x, d, hx, hd, hq⟩ := h.ex
  have Hqq := Lib.hid (whole_sign (paD_pos r d) (hq.trans (pa_eq r x d).symm))
  have Hne := Lib.hid (show paD r d ≠ 0 from by have := paD_pos r d; omega)
  obtain ⟨W0, hW0⟩ : ∃ W0, W0 = (w.alloc (.cells #[.bool r.num.neg, .slice r.num.A r.num.k r.num.c, .bool r.den.neg, .slice r.den.A r.den.k r.den.c] 50)) := ⟨_, rfl⟩
  obtain ⟨p0, pb⟩ := lay1 hW0
  have HBa := Lib.hid p0
  have Hbel := Lib.hid pb
  have Hx := Lib.hid (Rests.al1 (hx.old) hW0)
  have Hd := Lib.hid (Rests.al1 (hd.old) hW0)
  clear p0 pb
  subst hW0
  clear h hx hd hq
  go_enter Tryz.func65, Tryz.ntmps65
  go_wp2_with fail
  refine (parts_any _ r x d n (· < w.heap.size) (fun b hb => Nat.lt_of_lt_of_le hb Hbel.out.size) (by omega) h1n Hx.out Hd.out).mono ?_
  rintro e w1 ⟨p1, e1, rfl, hp, he, hb1⟩
  replace Hbel := Lib.hid (Below.after (by first | exact Hbel.out | exact Below.drew Hbel.out) hb1)
  have Hp1 := Lib.hid hp
  have He1 := Lib.hid he
  have HLe1 := Lib.hid he.now.lt
  clear hp he
  clear hb1
  go_wp2_with fail
  refine (wdivMod_any _ p1 e1 (paN r x d) (paD r d) n n (by omega) (by omega) (by first | exact Hp1.out.now | exact Hp1.out.drew.now) (by first | exact He1.out.now | exact He1.out.drew.now) Hne.out).mono ?_
  rintro e w2 ⟨k, k2, rfl, hk, hk2, hb2⟩
  replace Hbel := Lib.hid (Below.after (by first | exact Hbel.out | exact Below.drew Hbel.out) hb2)
  have Hk := Lib.hid hk2
  clear hk hk2
  clear hb2
  replace Hk := Lib.hid ((Hk.out.alloc (.cells #[.bool k.neg, .slice k.A k.k k.c] 48)).alloc (.cells #[.bool k2.neg, .slice k2.A k2.k k2.c] 48))
  replace Hbel := Lib.hid ((Hbel.out.alloc Hbel.out.size (.cells #[.bool k.neg, .slice k.A k.k k.c] 48)).alloc (Nat.le_trans Hbel.out.size (by simp)) (.cells #[.bool k2.neg, .slice k2.A k2.k k2.c] 48))
  have HP := Lib.hid (by have := Blk.new (w2.alloc (.cells #[.bool k.neg, .slice k.A k.k k.c] 48)) 48 #[.bool k2.neg, .slice k2.A k2.k k2.c]; simpa using this : Blk ((w2.alloc (.cells #[.bool k.neg, .slice k.A k.k k.c] 48)).alloc (.cells #[.bool k2.neg, .slice k2.A k2.k k2.c] 48)) (w2.heap.size + 1) 48 #[.bool k2.neg, .slice k2.A k2.k k2.c])
  have yP0 : World.cell? _ ⟨w2.heap.size + 1, 0, none⟩ = some (.bool k2.neg) := HP.out.cell 0
  have yP1 : World.cell? _ ⟨w2.heap.size + 1, 1, none⟩ = some (.slice k2.A k2.k k2.c) := HP.out.cell 1
  go_wp2_with fail
  refine (wsign_any _ k2 (paN r x d % paD r d) n (by omega) (IntN.ofLt (by first | exact Hk.out.now | exact Hk.out.drew.now) (rest_lt (paD_pos r d) HLe1.out))).mono ?_
  rintro e w3 ⟨rfl, hb3⟩
  replace Hbel := Lib.hid (Below.after (by first | exact Hbel.out | exact Below.drew Hbel.out) hb3)
  clear hb3
  generalize (paN r x d % paD r d).sign = c at *
  go_wp2_with fail
  go_ret
  exact ⟨by rw [← Hqq.out]; rfl, Hbel.out⟩
end Go.Proofs.YtgghdedabpohbaaGreatDoor
