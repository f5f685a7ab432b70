/-
  ratio: Make, Norm, Of, Whole, Mul.
-/
import Derived.Test.YtbdgeinfijamcaaGreatDoorRD
namespace Go.Proofs.YtbdgeinfijamcaaGreatDoor
open Go.RowKit

set_option maxRecDepth 100000 in
set_option maxHeartbeats 1000000 in
theorem make_any (w : World) (i j : IV) (x y : Int) (n : Nat) (hn : n ≤ 900000000000) (h1n : 1 ≤ n) (h : IntD i x n w) (h' : IntD j y n w) (hT : Tz w) :
    Calls Tryz.prog 32 #[.agg #[.bool i.neg, .slice i.A i.k i.c], .agg #[.bool j.neg, .slice j.A j.k j.c]] w (RetR (Rat.divInt x y) w) := by
  obtain ⟨W0, hW0⟩ : ∃ W0, W0 = (((w.alloc (.cells #[.bool i.neg, .slice i.A i.k i.c] 34)).alloc (.cells #[.bool j.neg, .slice j.A j.k j.c] 34)).alloc (.cells #[.bool false, .slice none 0 0, .bool false, .slice none 0 0] 36)) := ⟨_, rfl⟩
  obtain ⟨p0, p1, p2, pb⟩ := lay3 hW0
  have HBa := Lib.hid p0
  have HBb := Lib.hid p1
  have HBr := Lib.hid p2
  have Hbel := Lib.hid pb
  have Hi := Lib.hid (Rests.al3 (h.old) hW0)
  have Hj := Lib.hid (Rests.al3 (h'.old) hW0)
  have HT := Lib.hid (Rests.al3 (hT.old) hW0)
  clear p0 p1 p2 pb
  subst hW0
  have ne01 : w.heap.size ≠ w.heap.size + 1 := by omega
  have ne02 : w.heap.size ≠ w.heap.size + 1 + 1 := by omega
  have ne10 : w.heap.size + 1 ≠ w.heap.size := by omega
  have ne12 : w.heap.size + 1 ≠ w.heap.size + 1 + 1 := by omega
  have ne20 : w.heap.size + 1 + 1 ≠ w.heap.size := by omega
  have ne21 : w.heap.size + 1 + 1 ≠ w.heap.size + 1 := by omega
  clear h h' hT
  go_enter Tryz.func32, Tryz.ntmps32
  go_wp2_with fail
  refine (over_any _ i j x y n (· < w.heap.size) (fun b hb => Nat.lt_of_lt_of_le hb Hbel.out.size) hn h1n Hi.out Hj.out).mono ?_
  rintro e w1 ⟨p, q, rfl, hp, hq, hb1⟩
  replace HBr := Lib.hid (Blk.below (by exact HBr.out) hb1 (by exact HBr.out.lt))
  obtain ⟨sw1HBr0, sw1HBr1, sw1HBr2, sw1HBr3⟩ := Blk.c4 HBr.out
  obtain ⟨fw1HBr0, fw1HBr1, fw1HBr2, fw1HBr3⟩ := Blk.f4 HBr.out
  replace HT := Lib.hid (Rests.below (φ := Tz) (by first | exact HT.out | exact HT.out.drew) hb1)
  replace Hbel := Lib.hid (Below.after (by first | exact Hbel.out | exact Below.drew Hbel.out) hb1)
  have Hp := Lib.hid hp
  have Hq := Lib.hid hq
  clear hp hq
  clear hb1
  go_wp2_with fail
  refine (lowest_any _ p q (ovN x y) (ovD y) (n) hn (by first | exact Hp.out.now | exact Hp.out.drew.now) (by first | exact Hq.out.now | exact Hq.out.drew.now) (by first | exact HT.out.now | exact HT.out.drew.now) (ovD_pos y)).mono ?_
  rintro e w2 ⟨rr, rfl, hrr, hb2⟩
  have hgl := HBr.out.lt
  replace HBr := Lib.hid (Blk.below (by exact HBr.out) hb2 (by exact HBr.out.lt))
  obtain ⟨sw2HBr0, sw2HBr1, sw2HBr2, sw2HBr3⟩ := Blk.c4 HBr.out
  obtain ⟨fw2HBr0, fw2HBr1, fw2HBr2, fw2HBr3⟩ := Blk.f4 HBr.out
  replace HT := Lib.hid (Rests.below (φ := Tz) (by first | exact HT.out | exact HT.out.drew) hb2)
  replace Hbel := Lib.hid (Below.after (by first | exact Hbel.out | exact Below.drew Hbel.out) hb2)
  have Hrr := Lib.hid (hrr.mono (G := (w.heap.size + 1 + 1 + 1 ≤ ·)) (fun b hb => Nat.le_trans hgl hb))
  clear hrr hgl
  clear hb2
  rw [ov_eq] at Hrr
  go_wp2_with fail
  have hfin : RetR (Rat.divInt x y) w (.returned (.agg #[.bool rr.num.neg, .slice rr.num.A rr.num.k rr.num.c, .bool rr.den.neg, .slice rr.den.A rr.den.k rr.den.c])) ((((w2.setCell ⟨w.heap.size + 1 + 1, 0, none⟩ (.bool rr.num.neg)).setCell ⟨w.heap.size + 1 + 1, 1, none⟩ (.slice rr.num.A rr.num.k rr.num.c)).setCell ⟨w.heap.size + 1 + 1, 2, none⟩ (.bool rr.den.neg)).setCell ⟨w.heap.size + 1 + 1, 3, none⟩ (.slice rr.den.A rr.den.k rr.den.c)) := ret_boxR (r := rr) (g := w.heap.size + 1 + 1) (w2 := w2) Hbel.out (by omega) Hrr.out (fun _ h => h)
  have b4 := box4 HBr.out (.bool rr.num.neg) (.slice rr.num.A rr.num.k rr.num.c) (.bool rr.den.neg) (.slice rr.den.A rr.den.k rr.den.c)
  have q0 : World.cell? ((((w2.setCell ⟨w.heap.size + 1 + 1, 0, none⟩ (.bool rr.num.neg)).setCell ⟨w.heap.size + 1 + 1, 1, none⟩ (.slice rr.num.A rr.num.k rr.num.c)).setCell ⟨w.heap.size + 1 + 1, 2, none⟩ (.bool rr.den.neg)).setCell ⟨w.heap.size + 1 + 1, 3, none⟩ (.slice rr.den.A rr.den.k rr.den.c)) ⟨w.heap.size + 1 + 1, 0, none⟩ = some (.bool rr.num.neg) := b4.cell 0
  have q1 : World.cell? ((((w2.setCell ⟨w.heap.size + 1 + 1, 0, none⟩ (.bool rr.num.neg)).setCell ⟨w.heap.size + 1 + 1, 1, none⟩ (.slice rr.num.A rr.num.k rr.num.c)).setCell ⟨w.heap.size + 1 + 1, 2, none⟩ (.bool rr.den.neg)).setCell ⟨w.heap.size + 1 + 1, 3, none⟩ (.slice rr.den.A rr.den.k rr.den.c)) ⟨w.heap.size + 1 + 1, 1, none⟩ = some (.slice rr.num.A rr.num.k rr.num.c) := b4.cell 1
  have q2 : World.cell? ((((w2.setCell ⟨w.heap.size + 1 + 1, 0, none⟩ (.bool rr.num.neg)).setCell ⟨w.heap.size + 1 + 1, 1, none⟩ (.slice rr.num.A rr.num.k rr.num.c)).setCell ⟨w.heap.size + 1 + 1, 2, none⟩ (.bool rr.den.neg)).setCell ⟨w.heap.size + 1 + 1, 3, none⟩ (.slice rr.den.A rr.den.k rr.den.c)) ⟨w.heap.size + 1 + 1, 2, none⟩ = some (.bool rr.den.neg) := b4.cell 2
  have q3 : World.cell? ((((w2.setCell ⟨w.heap.size + 1 + 1, 0, none⟩ (.bool rr.num.neg)).setCell ⟨w.heap.size + 1 + 1, 1, none⟩ (.slice rr.num.A rr.num.k rr.num.c)).setCell ⟨w.heap.size + 1 + 1, 2, none⟩ (.bool rr.den.neg)).setCell ⟨w.heap.size + 1 + 1, 3, none⟩ (.slice rr.den.A rr.den.k rr.den.c)) ⟨w.heap.size + 1 + 1, 3, none⟩ = some (.slice rr.den.A rr.den.k rr.den.c) := b4.cell 3
  clear b4 HBr Hbel
  generalize ((((w2.setCell ⟨w.heap.size + 1 + 1, 0, none⟩ (.bool rr.num.neg)).setCell ⟨w.heap.size + 1 + 1, 1, none⟩ (.slice rr.num.A rr.num.k rr.num.c)).setCell ⟨w.heap.size + 1 + 1, 2, none⟩ (.bool rr.den.neg)).setCell ⟨w.heap.size + 1 + 1, 3, none⟩ (.slice rr.den.A rr.den.k rr.den.c)) = W at *
  exact bodyPost_ret (v := .agg #[.bool rr.num.neg, .slice rr.num.A rr.num.k rr.num.c, .bool rr.den.neg, .slice rr.den.A rr.den.k rr.den.c]) (by simp [results, Tryz.results32, go_sem, q0, q1, q2, q3]) rfl hfin

set_option maxRecDepth 100000 in
set_option maxHeartbeats 1000000 in
theorem rof_any (w : World) (x y : Int) (h1 : -9223372036854775808 ≤ x) (h2 : x ≤ 9223372036854775807) (h3 : -9223372036854775808 ≤ y) (h4 : y ≤ 9223372036854775807) (hT : Tz w) :
    Calls Tryz.prog 12 #[.int .i64 x, .int .i64 y] w (RetR (Rat.divInt x y) w) := by
  have HLx := Lib.hid (show x.natAbs < B64 ^ 1 from by simp only [B64]; omega)
  have HLy := Lib.hid (show y.natAbs < B64 ^ 1 from by simp only [B64]; omega)
  obtain ⟨W0, hW0⟩ : ∃ W0, W0 = (w.alloc (.cells #[.bool false, .slice none 0 0, .bool false, .slice none 0 0] 36)) := ⟨_, rfl⟩
  obtain ⟨p0, pb⟩ := lay1 hW0
  have HBr := Lib.hid p0
  have Hbel := Lib.hid pb
  have HT := Lib.hid (Rests.al1 (hT.old) hW0)
  clear p0 pb
  subst hW0
  clear hT
  go_enter Tryz.func12, Tryz.ntmps12
  go_wp2_with fail
  refine (wof_any _ x h1 h2).mono ?_
  rintro e w1 ⟨k1, rfl, hk1, hb1⟩
  replace HBr := Lib.hid (Blk.below (by exact HBr.out) hb1 (by exact HBr.out.lt))
  obtain ⟨sw1HBr0, sw1HBr1, sw1HBr2, sw1HBr3⟩ := Blk.c4 HBr.out
  obtain ⟨fw1HBr0, fw1HBr1, fw1HBr2, fw1HBr3⟩ := Blk.f4 HBr.out
  replace HT := Lib.hid (Rests.below (φ := Tz) (by first | exact HT.out | exact HT.out.drew) hb1)
  replace Hbel := Lib.hid (Below.after (by first | exact Hbel.out | exact Below.drew Hbel.out) hb1)
  have Hk1 := Lib.hid hk1
  clear hk1
  clear hb1
  go_wp2_with fail
  refine (wof_any _ y h3 h4).mono ?_
  rintro e w2 ⟨k2, rfl, hk2, hb2⟩
  replace HBr := Lib.hid (Blk.below (by exact HBr.out) hb2 (by exact HBr.out.lt))
  obtain ⟨sw2HBr0, sw2HBr1, sw2HBr2, sw2HBr3⟩ := Blk.c4 HBr.out
  obtain ⟨fw2HBr0, fw2HBr1, fw2HBr2, fw2HBr3⟩ := Blk.f4 HBr.out
  replace HT := Lib.hid (Rests.below (φ := Tz) (by first | exact HT.out | exact HT.out.drew) hb2)
  replace Hk1 := Lib.hid (Rests.below (φ := IntN k1 x) (by first | exact Hk1.out | exact Hk1.out.drew) hb2)
  replace Hbel := Lib.hid (Below.after (by first | exact Hbel.out | exact Below.drew Hbel.out) hb2)
  have Hk2 := Lib.hid hk2
  clear hk2
  clear hb2
  go_wp2_with fail
  refine (make_any _ k1 k2 x y 1 (by decide) (by decide) (IntN.ofLt (by first | exact Hk1.out.now | exact Hk1.out.drew.now) HLx.out) (IntN.ofLt (by first | exact Hk2.out.now | exact Hk2.out.drew.now) HLy.out) (by first | exact HT.out.now | exact HT.out.drew.now)).mono ?_
  rintro e w3 ⟨rr, rfl, hrr, hb3⟩
  have hgl := HBr.out.lt
  replace HBr := Lib.hid (Blk.below (by exact HBr.out) hb3 (by exact HBr.out.lt))
  obtain ⟨sw3HBr0, sw3HBr1, sw3HBr2, sw3HBr3⟩ := Blk.c4 HBr.out
  obtain ⟨fw3HBr0, fw3HBr1, fw3HBr2, fw3HBr3⟩ := Blk.f4 HBr.out
  replace HT := Lib.hid (Rests.below (φ := Tz) (by first | exact HT.out | exact HT.out.drew) hb3)
  replace Hbel := Lib.hid (Below.after (by first | exact Hbel.out | exact Below.drew Hbel.out) hb3)
  have Hrr := Lib.hid (hrr.mono (G := (w.heap.size + 1 ≤ ·)) (fun b hb => Nat.le_trans hgl hb))
  clear hrr hgl
  clear hb3
  go_wp2_with fail
  have hfin : RetR (Rat.divInt x y) w (.returned (.agg #[.bool rr.num.neg, .slice rr.num.A rr.num.k rr.num.c, .bool rr.den.neg, .slice rr.den.A rr.den.k rr.den.c])) ((((w3.setCell ⟨w.heap.size, 0, none⟩ (.bool rr.num.neg)).setCell ⟨w.heap.size, 1, none⟩ (.slice rr.num.A rr.num.k rr.num.c)).setCell ⟨w.heap.size, 2, none⟩ (.bool rr.den.neg)).setCell ⟨w.heap.size, 3, none⟩ (.slice rr.den.A rr.den.k rr.den.c)) := ret_boxR (r := rr) (g := w.heap.size) (w2 := w3) Hbel.out (by omega) Hrr.out (fun _ h => h)
  have b4 := box4 HBr.out (.bool rr.num.neg) (.slice rr.num.A rr.num.k rr.num.c) (.bool rr.den.neg) (.slice rr.den.A rr.den.k rr.den.c)
  have q0 : World.cell? ((((w3.setCell ⟨w.heap.size, 0, none⟩ (.bool rr.num.neg)).setCell ⟨w.heap.size, 1, none⟩ (.slice rr.num.A rr.num.k rr.num.c)).setCell ⟨w.heap.size, 2, none⟩ (.bool rr.den.neg)).setCell ⟨w.heap.size, 3, none⟩ (.slice rr.den.A rr.den.k rr.den.c)) ⟨w.heap.size, 0, none⟩ = some (.bool rr.num.neg) := b4.cell 0
  have q1 : World.cell? ((((w3.setCell ⟨w.heap.size, 0, none⟩ (.bool rr.num.neg)).setCell ⟨w.heap.size, 1, none⟩ (.slice rr.num.A rr.num.k rr.num.c)).setCell ⟨w.heap.size, 2, none⟩ (.bool rr.den.neg)).setCell ⟨w.heap.size, 3, none⟩ (.slice rr.den.A rr.den.k rr.den.c)) ⟨w.heap.size, 1, none⟩ = some (.slice rr.num.A rr.num.k rr.num.c) := b4.cell 1
  have q2 : World.cell? ((((w3.setCell ⟨w.heap.size, 0, none⟩ (.bool rr.num.neg)).setCell ⟨w.heap.size, 1, none⟩ (.slice rr.num.A rr.num.k rr.num.c)).setCell ⟨w.heap.size, 2, none⟩ (.bool rr.den.neg)).setCell ⟨w.heap.size, 3, none⟩ (.slice rr.den.A rr.den.k rr.den.c)) ⟨w.heap.size, 2, none⟩ = some (.bool rr.den.neg) := b4.cell 2
  have q3 : World.cell? ((((w3.setCell ⟨w.heap.size, 0, none⟩ (.bool rr.num.neg)).setCell ⟨w.heap.size, 1, none⟩ (.slice rr.num.A rr.num.k rr.num.c)).setCell ⟨w.heap.size, 2, none⟩ (.bool rr.den.neg)).setCell ⟨w.heap.size, 3, none⟩ (.slice rr.den.A rr.den.k rr.den.c)) ⟨w.heap.size, 3, none⟩ = some (.slice rr.den.A rr.den.k rr.den.c) := b4.cell 3
  clear b4 HBr Hbel
  generalize ((((w3.setCell ⟨w.heap.size, 0, none⟩ (.bool rr.num.neg)).setCell ⟨w.heap.size, 1, none⟩ (.slice rr.num.A rr.num.k rr.num.c)).setCell ⟨w.heap.size, 2, none⟩ (.bool rr.den.neg)).setCell ⟨w.heap.size, 3, none⟩ (.slice rr.den.A rr.den.k rr.den.c)) = W at *
  exact bodyPost_ret (v := .agg #[.bool rr.num.neg, .slice rr.num.A rr.num.k rr.num.c, .bool rr.den.neg, .slice rr.den.A rr.den.k rr.den.c]) (by simp [results, Tryz.results12, go_sem, q0, q1, q2, q3]) rfl hfin

end Go.Proofs.YtbdgeinfijamcaaGreatDoor
