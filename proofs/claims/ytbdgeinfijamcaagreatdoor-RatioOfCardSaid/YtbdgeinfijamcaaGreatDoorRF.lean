/-
  ratio: Quo, Neg, Whole, Add, Sub.
-/
import Derived.Test.YtbdgeinfijamcaaGreatDoorRE
namespace Go.Proofs.YtbdgeinfijamcaaGreatDoor
open Go.RowKit

theorem add_lt {a b : Int} {n : Nat} (ha : a.natAbs < B64 ^ n) (hb : b.natAbs < B64 ^ n) : (a + b).natAbs < B64 ^ (n + 1) ∧ (a - b).natAbs < B64 ^ (n + 1) := by
  have h : B64 ^ n * 2 ≤ B64 ^ (n + 1) := by rw [Nat.pow_succ]; exact Nat.mul_le_mul_left _ (by decide)
  omega

set_option maxRecDepth 100000 in
set_option maxHeartbeats 4000000 in
theorem rquo_any (w : World) (r s : RV) (a b : Rat) (n : Nat) (hn : n ≤ 400000000000) (h1n : 1 ≤ n) (h : RatD r a n w) (h' : RatD s b n w) (hT : Tz w) :
    Calls Tryz.prog 28 #[.agg #[.bool r.num.neg, .slice r.num.A r.num.k r.num.c, .bool r.den.neg, .slice r.den.A r.den.k r.den.c], .agg #[.bool s.num.neg, .slice s.num.A s.num.k s.num.c, .bool s.den.neg, .slice s.den.A s.den.k s.den.c]] w (RetR (a / b) w) := by
  obtain ⟨x, d, hx, hd, hq⟩ := h.ex
  obtain ⟨x', d', hx', hd', hq'⟩ := h'.ex
  have Hqq := Lib.hid (show a / b = Rat.divInt (paN r x d * paD s d') (paD r d * paN s x' d') from by rw [hq.trans (pa_eq r x d).symm, hq'.trans (pa_eq s x' d').symm]; rw [Rat.div_def, Rat.inv_divInt, Rat.divInt_mul_divInt])
  obtain ⟨W0, hW0⟩ : ∃ W0, W0 = (((w.alloc (.cells #[.bool r.num.neg, .slice r.num.A r.num.k r.num.c, .bool r.den.neg, .slice r.den.A r.den.k r.den.c] 36)).alloc (.cells #[.bool s.num.neg, .slice s.num.A s.num.k s.num.c, .bool s.den.neg, .slice s.den.A s.den.k s.den.c] 36)).alloc (.cells #[.bool false, .slice none 0 0, .bool false, .slice none 0 0] 36)) := ⟨_, rfl⟩
  obtain ⟨p0, p1, p2, pb⟩ := lay3 hW0
  have HBa := Lib.hid p0
  have HBb := Lib.hid p1
  have HBr := Lib.hid p2
  have Hbel := Lib.hid pb
  have Hx := Lib.hid (Rests.al3 (hx.old) hW0)
  have Hd := Lib.hid (Rests.al3 (hd.old) hW0)
  have Hx' := Lib.hid (Rests.al3 (hx'.old) hW0)
  have Hd' := Lib.hid (Rests.al3 (hd'.old) hW0)
  have HT := Lib.hid (Rests.al3 (hT.old) hW0)
  clear p0 p1 p2 pb
  subst hW0
  have ne01 : w.heap.size ≠ w.heap.size + 1 := by omega
  have ne02 : w.heap.size ≠ w.heap.size + 1 + 1 := by omega
  have ne10 : w.heap.size + 1 ≠ w.heap.size := by omega
  have ne12 : w.heap.size + 1 ≠ w.heap.size + 1 + 1 := by omega
  have ne20 : w.heap.size + 1 + 1 ≠ w.heap.size := by omega
  have ne21 : w.heap.size + 1 + 1 ≠ w.heap.size + 1 := by omega
  clear h h' hx hd hq hx' hd' hq' hT
  go_enter Tryz.func28, Tryz.ntmps28
  go_wp2_with fail
  refine (parts_any _ r x d n (· < w.heap.size) (fun b hb => Nat.lt_of_lt_of_le hb Hbel.out.size) (by omega) h1n Hx.out Hd.out).mono ?_
  rintro e w1 ⟨p1, e1, rfl, hp, he, hbw1⟩
  replace HBa := Lib.hid (Blk.below (by exact HBa.out) hbw1 (by exact HBa.out.lt))
  obtain ⟨sw1HBa0, sw1HBa1, sw1HBa2, sw1HBa3⟩ := Blk.c4 HBa.out
  replace HBb := Lib.hid (Blk.below (by exact HBb.out) hbw1 (by exact HBb.out.lt))
  obtain ⟨sw1HBb0, sw1HBb1, sw1HBb2, sw1HBb3⟩ := Blk.c4 HBb.out
  replace HBr := Lib.hid (Blk.below (by exact HBr.out) hbw1 (by exact HBr.out.lt))
  obtain ⟨sw1HBr0, sw1HBr1, sw1HBr2, sw1HBr3⟩ := Blk.c4 HBr.out
  obtain ⟨fw1HBr0, fw1HBr1, fw1HBr2, fw1HBr3⟩ := Blk.f4 HBr.out
  replace Hx := Lib.hid (Rests.below (φ := IntD r.num x n) (by first | exact Hx.out | exact Hx.out.drew) hbw1)
  replace Hd := Lib.hid (Rests.below (φ := IntD r.den d n) (by first | exact Hd.out | exact Hd.out.drew) hbw1)
  replace Hx' := Lib.hid (Rests.below (φ := IntD s.num x' n) (by first | exact Hx'.out | exact Hx'.out.drew) hbw1)
  replace Hd' := Lib.hid (Rests.below (φ := IntD s.den d' n) (by first | exact Hd'.out | exact Hd'.out.drew) hbw1)
  replace HT := Lib.hid (Rests.below (φ := Tz) (by first | exact HT.out | exact HT.out.drew) hbw1)
  replace Hbel := Lib.hid (Below.after (by first | exact Hbel.out | exact Below.drew Hbel.out) hbw1)
  have Hp1 := Lib.hid hp
  have He1 := Lib.hid he
  have HLp1 := Lib.hid hp.now.lt
  have HLe1 := Lib.hid he.now.lt
  clear hp he
  clear hbw1
  have lr1 : w.heap.size + 1 + 1 < w1.heap.size := HBr.out.lt
  have nr10 : w.heap.size + 1 + 1 ≠ w1.heap.size := by omega
  have nr11 : w1.heap.size ≠ w.heap.size + 1 + 1 := by omega
  have nr12 : w.heap.size + 1 + 1 ≠ w1.heap.size + 1 := by omega
  have nr13 : w1.heap.size + 1 ≠ w.heap.size + 1 + 1 := by omega
  have nr14 : w.heap.size + 1 ≠ w1.heap.size := by omega
  have nr15 : w1.heap.size ≠ w.heap.size + 1 := by omega
  replace HBa := Lib.hid ((HBa.out.alloc (.cells #[.bool p1.neg, .slice p1.A p1.k p1.c] 34)).alloc (.cells #[.bool e1.neg, .slice e1.A e1.k e1.c] 34))
  replace HBb := Lib.hid ((HBb.out.alloc (.cells #[.bool p1.neg, .slice p1.A p1.k p1.c] 34)).alloc (.cells #[.bool e1.neg, .slice e1.A e1.k e1.c] 34))
  replace HBr := Lib.hid ((HBr.out.alloc (.cells #[.bool p1.neg, .slice p1.A p1.k p1.c] 34)).alloc (.cells #[.bool e1.neg, .slice e1.A e1.k e1.c] 34))
  replace Hx := Lib.hid ((Hx.out.alloc (.cells #[.bool p1.neg, .slice p1.A p1.k p1.c] 34)).alloc (.cells #[.bool e1.neg, .slice e1.A e1.k e1.c] 34))
  replace Hd := Lib.hid ((Hd.out.alloc (.cells #[.bool p1.neg, .slice p1.A p1.k p1.c] 34)).alloc (.cells #[.bool e1.neg, .slice e1.A e1.k e1.c] 34))
  replace Hx' := Lib.hid ((Hx'.out.alloc (.cells #[.bool p1.neg, .slice p1.A p1.k p1.c] 34)).alloc (.cells #[.bool e1.neg, .slice e1.A e1.k e1.c] 34))
  replace Hd' := Lib.hid ((Hd'.out.alloc (.cells #[.bool p1.neg, .slice p1.A p1.k p1.c] 34)).alloc (.cells #[.bool e1.neg, .slice e1.A e1.k e1.c] 34))
  replace HT := Lib.hid ((HT.out.alloc (.cells #[.bool p1.neg, .slice p1.A p1.k p1.c] 34)).alloc (.cells #[.bool e1.neg, .slice e1.A e1.k e1.c] 34))
  replace Hp1 := Lib.hid ((Hp1.out.alloc (.cells #[.bool p1.neg, .slice p1.A p1.k p1.c] 34)).alloc (.cells #[.bool e1.neg, .slice e1.A e1.k e1.c] 34))
  replace He1 := Lib.hid ((He1.out.alloc (.cells #[.bool p1.neg, .slice p1.A p1.k p1.c] 34)).alloc (.cells #[.bool e1.neg, .slice e1.A e1.k e1.c] 34))
  replace Hbel := Lib.hid ((Hbel.out.alloc Hbel.out.size (.cells #[.bool p1.neg, .slice p1.A p1.k p1.c] 34)).alloc (Nat.le_trans Hbel.out.size (by simp)) (.cells #[.bool e1.neg, .slice e1.A e1.k e1.c] 34))
  have HP1 := Lib.hid ((Blk.new w1 34 #[.bool p1.neg, .slice p1.A p1.k p1.c]).alloc (.cells #[.bool e1.neg, .slice e1.A e1.k e1.c] 34))
  have HE1 := Lib.hid (by have := Blk.new (w1.alloc (.cells #[.bool p1.neg, .slice p1.A p1.k p1.c] 34)) 34 #[.bool e1.neg, .slice e1.A e1.k e1.c]; simpa using this : Blk ((w1.alloc (.cells #[.bool p1.neg, .slice p1.A p1.k p1.c] 34)).alloc (.cells #[.bool e1.neg, .slice e1.A e1.k e1.c] 34)) (w1.heap.size + 1) 34 #[.bool e1.neg, .slice e1.A e1.k e1.c])
  have y1HBa0 : World.cell? _ ⟨w.heap.size, 0, none⟩ = some (.bool r.num.neg) := HBa.out.cell 0
  have y1HBa1 : World.cell? _ ⟨w.heap.size, 1, none⟩ = some (.slice r.num.A r.num.k r.num.c) := HBa.out.cell 1
  have y1HBa2 : World.cell? _ ⟨w.heap.size, 2, none⟩ = some (.bool r.den.neg) := HBa.out.cell 2
  have y1HBa3 : World.cell? _ ⟨w.heap.size, 3, none⟩ = some (.slice r.den.A r.den.k r.den.c) := HBa.out.cell 3
  have y1HBb0 : World.cell? _ ⟨w.heap.size + 1, 0, none⟩ = some (.bool s.num.neg) := HBb.out.cell 0
  have y1HBb1 : World.cell? _ ⟨w.heap.size + 1, 1, none⟩ = some (.slice s.num.A s.num.k s.num.c) := HBb.out.cell 1
  have y1HBb2 : World.cell? _ ⟨w.heap.size + 1, 2, none⟩ = some (.bool s.den.neg) := HBb.out.cell 2
  have y1HBb3 : World.cell? _ ⟨w.heap.size + 1, 3, none⟩ = some (.slice s.den.A s.den.k s.den.c) := HBb.out.cell 3
  have y1HBr0 : World.cell? _ ⟨w.heap.size + 1 + 1, 0, none⟩ = some (.bool false) := HBr.out.cell 0
  have y1HBr1 : World.cell? _ ⟨w.heap.size + 1 + 1, 1, none⟩ = some (.slice none 0 0) := HBr.out.cell 1
  have y1HBr2 : World.cell? _ ⟨w.heap.size + 1 + 1, 2, none⟩ = some (.bool false) := HBr.out.cell 2
  have y1HBr3 : World.cell? _ ⟨w.heap.size + 1 + 1, 3, none⟩ = some (.slice none 0 0) := HBr.out.cell 3
  have y1HP10 : World.cell? _ ⟨w1.heap.size, 0, none⟩ = some (.bool p1.neg) := HP1.out.cell 0
  have y1HP11 : World.cell? _ ⟨w1.heap.size, 1, none⟩ = some (.slice p1.A p1.k p1.c) := HP1.out.cell 1
  have y1HE10 : World.cell? _ ⟨w1.heap.size + 1, 0, none⟩ = some (.bool e1.neg) := HE1.out.cell 0
  have y1HE11 : World.cell? _ ⟨w1.heap.size + 1, 1, none⟩ = some (.slice e1.A e1.k e1.c) := HE1.out.cell 1
  go_wp2_with fail
  refine (parts_any _ s x' d' n (· < w.heap.size) (fun b hb => Nat.lt_of_lt_of_le hb Hbel.out.size) (by omega) h1n Hx'.out Hd'.out).mono ?_
  rintro e w2 ⟨p2, e2, rfl, hp, he, hbw2⟩
  replace HBa := Lib.hid (Blk.below (by exact HBa.out) hbw2 (by exact HBa.out.lt))
  obtain ⟨sw2HBa0, sw2HBa1, sw2HBa2, sw2HBa3⟩ := Blk.c4 HBa.out
  replace HBb := Lib.hid (Blk.below (by exact HBb.out) hbw2 (by exact HBb.out.lt))
  obtain ⟨sw2HBb0, sw2HBb1, sw2HBb2, sw2HBb3⟩ := Blk.c4 HBb.out
  replace HBr := Lib.hid (Blk.below (by exact HBr.out) hbw2 (by exact HBr.out.lt))
  obtain ⟨sw2HBr0, sw2HBr1, sw2HBr2, sw2HBr3⟩ := Blk.c4 HBr.out
  obtain ⟨fw2HBr0, fw2HBr1, fw2HBr2, fw2HBr3⟩ := Blk.f4 HBr.out
  replace HP1 := Lib.hid (Blk.below (by exact HP1.out) hbw2 (by exact HP1.out.lt))
  obtain ⟨sw2HP10, sw2HP11⟩ := Blk.c2 HP1.out
  replace HE1 := Lib.hid (Blk.below (by exact HE1.out) hbw2 (by exact HE1.out.lt))
  obtain ⟨sw2HE10, sw2HE11⟩ := Blk.c2 HE1.out
  replace Hx := Lib.hid (Rests.below (φ := IntD r.num x n) (by first | exact Hx.out | exact Hx.out.drew) hbw2)
  replace Hd := Lib.hid (Rests.below (φ := IntD r.den d n) (by first | exact Hd.out | exact Hd.out.drew) hbw2)
  replace Hx' := Lib.hid (Rests.below (φ := IntD s.num x' n) (by first | exact Hx'.out | exact Hx'.out.drew) hbw2)
  replace Hd' := Lib.hid (Rests.below (φ := IntD s.den d' n) (by first | exact Hd'.out | exact Hd'.out.drew) hbw2)
  replace HT := Lib.hid (Rests.below (φ := Tz) (by first | exact HT.out | exact HT.out.drew) hbw2)
  replace Hp1 := Lib.hid (Rests.below (φ := IntD p1 (paN r x d) n) (by first | exact Hp1.out | exact Hp1.out.drew) hbw2)
  replace He1 := Lib.hid (Rests.below (φ := IntD e1 (paD r d) n) (by first | exact He1.out | exact He1.out.drew) hbw2)
  replace Hbel := Lib.hid (Below.after (by first | exact Hbel.out | exact Below.drew Hbel.out) hbw2)
  have Hp2 := Lib.hid hp
  have He2 := Lib.hid he
  have HLp2 := Lib.hid hp.now.lt
  have HLe2 := Lib.hid he.now.lt
  clear hp he
  clear hbw2
  have lr2 : w.heap.size + 1 + 1 < w2.heap.size := HBr.out.lt
  have nr20 : w.heap.size + 1 + 1 ≠ w2.heap.size := by omega
  have nr21 : w2.heap.size ≠ w.heap.size + 1 + 1 := by omega
  have nr22 : w.heap.size + 1 + 1 ≠ w2.heap.size + 1 := by omega
  have nr23 : w2.heap.size + 1 ≠ w.heap.size + 1 + 1 := by omega
  have nr24 : w.heap.size + 1 ≠ w2.heap.size := by omega
  have nr25 : w2.heap.size ≠ w.heap.size + 1 := by omega
  replace HBa := Lib.hid ((HBa.out.alloc (.cells #[.bool p2.neg, .slice p2.A p2.k p2.c] 34)).alloc (.cells #[.bool e2.neg, .slice e2.A e2.k e2.c] 34))
  replace HBb := Lib.hid ((HBb.out.alloc (.cells #[.bool p2.neg, .slice p2.A p2.k p2.c] 34)).alloc (.cells #[.bool e2.neg, .slice e2.A e2.k e2.c] 34))
  replace HBr := Lib.hid ((HBr.out.alloc (.cells #[.bool p2.neg, .slice p2.A p2.k p2.c] 34)).alloc (.cells #[.bool e2.neg, .slice e2.A e2.k e2.c] 34))
  replace HP1 := Lib.hid ((HP1.out.alloc (.cells #[.bool p2.neg, .slice p2.A p2.k p2.c] 34)).alloc (.cells #[.bool e2.neg, .slice e2.A e2.k e2.c] 34))
  replace HE1 := Lib.hid ((HE1.out.alloc (.cells #[.bool p2.neg, .slice p2.A p2.k p2.c] 34)).alloc (.cells #[.bool e2.neg, .slice e2.A e2.k e2.c] 34))
  replace Hx := Lib.hid ((Hx.out.alloc (.cells #[.bool p2.neg, .slice p2.A p2.k p2.c] 34)).alloc (.cells #[.bool e2.neg, .slice e2.A e2.k e2.c] 34))
  replace Hd := Lib.hid ((Hd.out.alloc (.cells #[.bool p2.neg, .slice p2.A p2.k p2.c] 34)).alloc (.cells #[.bool e2.neg, .slice e2.A e2.k e2.c] 34))
  replace Hx' := Lib.hid ((Hx'.out.alloc (.cells #[.bool p2.neg, .slice p2.A p2.k p2.c] 34)).alloc (.cells #[.bool e2.neg, .slice e2.A e2.k e2.c] 34))
  replace Hd' := Lib.hid ((Hd'.out.alloc (.cells #[.bool p2.neg, .slice p2.A p2.k p2.c] 34)).alloc (.cells #[.bool e2.neg, .slice e2.A e2.k e2.c] 34))
  replace HT := Lib.hid ((HT.out.alloc (.cells #[.bool p2.neg, .slice p2.A p2.k p2.c] 34)).alloc (.cells #[.bool e2.neg, .slice e2.A e2.k e2.c] 34))
  replace Hp1 := Lib.hid ((Hp1.out.alloc (.cells #[.bool p2.neg, .slice p2.A p2.k p2.c] 34)).alloc (.cells #[.bool e2.neg, .slice e2.A e2.k e2.c] 34))
  replace He1 := Lib.hid ((He1.out.alloc (.cells #[.bool p2.neg, .slice p2.A p2.k p2.c] 34)).alloc (.cells #[.bool e2.neg, .slice e2.A e2.k e2.c] 34))
  replace Hp2 := Lib.hid ((Hp2.out.alloc (.cells #[.bool p2.neg, .slice p2.A p2.k p2.c] 34)).alloc (.cells #[.bool e2.neg, .slice e2.A e2.k e2.c] 34))
  replace He2 := Lib.hid ((He2.out.alloc (.cells #[.bool p2.neg, .slice p2.A p2.k p2.c] 34)).alloc (.cells #[.bool e2.neg, .slice e2.A e2.k e2.c] 34))
  replace Hbel := Lib.hid ((Hbel.out.alloc Hbel.out.size (.cells #[.bool p2.neg, .slice p2.A p2.k p2.c] 34)).alloc (Nat.le_trans Hbel.out.size (by simp)) (.cells #[.bool e2.neg, .slice e2.A e2.k e2.c] 34))
  have HP2 := Lib.hid ((Blk.new w2 34 #[.bool p2.neg, .slice p2.A p2.k p2.c]).alloc (.cells #[.bool e2.neg, .slice e2.A e2.k e2.c] 34))
  have HE2 := Lib.hid (by have := Blk.new (w2.alloc (.cells #[.bool p2.neg, .slice p2.A p2.k p2.c] 34)) 34 #[.bool e2.neg, .slice e2.A e2.k e2.c]; simpa using this : Blk ((w2.alloc (.cells #[.bool p2.neg, .slice p2.A p2.k p2.c] 34)).alloc (.cells #[.bool e2.neg, .slice e2.A e2.k e2.c] 34)) (w2.heap.size + 1) 34 #[.bool e2.neg, .slice e2.A e2.k e2.c])
  have y2HBa0 : World.cell? _ ⟨w.heap.size, 0, none⟩ = some (.bool r.num.neg) := HBa.out.cell 0
  have y2HBa1 : World.cell? _ ⟨w.heap.size, 1, none⟩ = some (.slice r.num.A r.num.k r.num.c) := HBa.out.cell 1
  have y2HBa2 : World.cell? _ ⟨w.heap.size, 2, none⟩ = some (.bool r.den.neg) := HBa.out.cell 2
  have y2HBa3 : World.cell? _ ⟨w.heap.size, 3, none⟩ = some (.slice r.den.A r.den.k r.den.c) := HBa.out.cell 3
  have y2HBb0 : World.cell? _ ⟨w.heap.size + 1, 0, none⟩ = some (.bool s.num.neg) := HBb.out.cell 0
  have y2HBb1 : World.cell? _ ⟨w.heap.size + 1, 1, none⟩ = some (.slice s.num.A s.num.k s.num.c) := HBb.out.cell 1
  have y2HBb2 : World.cell? _ ⟨w.heap.size + 1, 2, none⟩ = some (.bool s.den.neg) := HBb.out.cell 2
  have y2HBb3 : World.cell? _ ⟨w.heap.size + 1, 3, none⟩ = some (.slice s.den.A s.den.k s.den.c) := HBb.out.cell 3
  have y2HBr0 : World.cell? _ ⟨w.heap.size + 1 + 1, 0, none⟩ = some (.bool false) := HBr.out.cell 0
  have y2HBr1 : World.cell? _ ⟨w.heap.size + 1 + 1, 1, none⟩ = some (.slice none 0 0) := HBr.out.cell 1
  have y2HBr2 : World.cell? _ ⟨w.heap.size + 1 + 1, 2, none⟩ = some (.bool false) := HBr.out.cell 2
  have y2HBr3 : World.cell? _ ⟨w.heap.size + 1 + 1, 3, none⟩ = some (.slice none 0 0) := HBr.out.cell 3
  have y2HP10 : World.cell? _ ⟨w1.heap.size, 0, none⟩ = some (.bool p1.neg) := HP1.out.cell 0
  have y2HP11 : World.cell? _ ⟨w1.heap.size, 1, none⟩ = some (.slice p1.A p1.k p1.c) := HP1.out.cell 1
  have y2HE10 : World.cell? _ ⟨w1.heap.size + 1, 0, none⟩ = some (.bool e1.neg) := HE1.out.cell 0
  have y2HE11 : World.cell? _ ⟨w1.heap.size + 1, 1, none⟩ = some (.slice e1.A e1.k e1.c) := HE1.out.cell 1
  have y2HP20 : World.cell? _ ⟨w2.heap.size, 0, none⟩ = some (.bool p2.neg) := HP2.out.cell 0
  have y2HP21 : World.cell? _ ⟨w2.heap.size, 1, none⟩ = some (.slice p2.A p2.k p2.c) := HP2.out.cell 1
  have y2HE20 : World.cell? _ ⟨w2.heap.size + 1, 0, none⟩ = some (.bool e2.neg) := HE2.out.cell 0
  have y2HE21 : World.cell? _ ⟨w2.heap.size + 1, 1, none⟩ = some (.slice e2.A e2.k e2.c) := HE2.out.cell 1
  go_wp2_with fail
  go_region_held3 (fun W => W.cell? ⟨w1.heap.size, 0, none⟩ = some (.bool p1.neg) ∧ W.cell? ⟨w1.heap.size, 1, none⟩ = some (.slice p1.A p1.k p1.c) ∧ W.cell? ⟨w1.heap.size + 1, 0, none⟩ = some (.bool e1.neg) ∧ W.cell? ⟨w1.heap.size + 1, 1, none⟩ = some (.slice e1.A e1.k e1.c) ∧ W.cell? ⟨w2.heap.size, 0, none⟩ = some (.bool p2.neg) ∧ W.cell? ⟨w2.heap.size, 1, none⟩ = some (.slice p2.A p2.k p2.c) ∧ W.cell? ⟨w2.heap.size + 1, 0, none⟩ = some (.bool e2.neg) ∧ W.cell? ⟨w2.heap.size + 1, 1, none⟩ = some (.slice e2.A e2.k e2.c)) (go_keep)
    (first
      | (go_at_call_of 86 (Value.agg #[.bool p1.neg, .slice p1.A p1.k p1.c]); go_must (refine (wmul_any _ p1 e2 (paN r x d) (paD s d') n n (by omega) (by omega) (by first | exact Hp1.out.now | exact Hp1.out.drew.now) (by first | exact He2.out.now | exact He2.out.drew.now)).mono ?_; rintro e w3 ⟨k1, rfl, hk1, hbw3⟩; replace HBr := Lib.hid (Blk.below (by exact HBr.out) hbw3 (by exact HBr.out.lt)); obtain ⟨sw3HBr0, sw3HBr1, sw3HBr2, sw3HBr3⟩ := Blk.c4 HBr.out; obtain ⟨fw3HBr0, fw3HBr1, fw3HBr2, fw3HBr3⟩ := Blk.f4 HBr.out; replace HP1 := Lib.hid (Blk.below (by exact HP1.out) hbw3 (by exact HP1.out.lt)); obtain ⟨sw3HP10, sw3HP11⟩ := Blk.c2 HP1.out; replace HE1 := Lib.hid (Blk.below (by exact HE1.out) hbw3 (by exact HE1.out.lt)); obtain ⟨sw3HE10, sw3HE11⟩ := Blk.c2 HE1.out; replace HP2 := Lib.hid (Blk.below (by exact HP2.out) hbw3 (by exact HP2.out.lt)); obtain ⟨sw3HP20, sw3HP21⟩ := Blk.c2 HP2.out; replace HE2 := Lib.hid (Blk.below (by exact HE2.out) hbw3 (by exact HE2.out.lt)); obtain ⟨sw3HE20, sw3HE21⟩ := Blk.c2 HE2.out; replace HT := Lib.hid (Rests.below (φ := Tz) (by first | exact HT.out | exact HT.out.drew) hbw3); replace Hp1 := Lib.hid (Rests.below (φ := IntD p1 (paN r x d) n) (by first | exact Hp1.out | exact Hp1.out.drew) hbw3); replace He1 := Lib.hid (Rests.below (φ := IntD e1 (paD r d) n) (by first | exact He1.out | exact He1.out.drew) hbw3); replace Hp2 := Lib.hid (Rests.below (φ := IntD p2 (paN s x' d') n) (by first | exact Hp2.out | exact Hp2.out.drew) hbw3); replace He2 := Lib.hid (Rests.below (φ := IntD e2 (paD s d') n) (by first | exact He2.out | exact He2.out.drew) hbw3); replace Hbel := Lib.hid (Below.after (by first | exact Hbel.out | exact Below.drew Hbel.out) hbw3); have Hk1 := Lib.hid hk1; clear hk1; (try replace Hk2 := Lib.hid (Rests.below (φ := IntN k2 (paD r d * paN s x' d')) (by first | exact Hk2.out | exact Hk2.out.drew) hbw3)); clear hbw3))
      | (go_at_call_of 86 (Value.agg #[.bool e1.neg, .slice e1.A e1.k e1.c]); go_must (refine (wmul_any _ e1 p2 (paD r d) (paN s x' d') n n (by omega) (by omega) (by first | exact He1.out.now | exact He1.out.drew.now) (by first | exact Hp2.out.now | exact Hp2.out.drew.now)).mono ?_; rintro e w4 ⟨k2, rfl, hk2, hbw4⟩; replace HBr := Lib.hid (Blk.below (by exact HBr.out) hbw4 (by exact HBr.out.lt)); obtain ⟨sw4HBr0, sw4HBr1, sw4HBr2, sw4HBr3⟩ := Blk.c4 HBr.out; obtain ⟨fw4HBr0, fw4HBr1, fw4HBr2, fw4HBr3⟩ := Blk.f4 HBr.out; replace HP1 := Lib.hid (Blk.below (by exact HP1.out) hbw4 (by exact HP1.out.lt)); obtain ⟨sw4HP10, sw4HP11⟩ := Blk.c2 HP1.out; replace HE1 := Lib.hid (Blk.below (by exact HE1.out) hbw4 (by exact HE1.out.lt)); obtain ⟨sw4HE10, sw4HE11⟩ := Blk.c2 HE1.out; replace HP2 := Lib.hid (Blk.below (by exact HP2.out) hbw4 (by exact HP2.out.lt)); obtain ⟨sw4HP20, sw4HP21⟩ := Blk.c2 HP2.out; replace HE2 := Lib.hid (Blk.below (by exact HE2.out) hbw4 (by exact HE2.out.lt)); obtain ⟨sw4HE20, sw4HE21⟩ := Blk.c2 HE2.out; replace HT := Lib.hid (Rests.below (φ := Tz) (by first | exact HT.out | exact HT.out.drew) hbw4); replace Hp1 := Lib.hid (Rests.below (φ := IntD p1 (paN r x d) n) (by first | exact Hp1.out | exact Hp1.out.drew) hbw4); replace He1 := Lib.hid (Rests.below (φ := IntD e1 (paD r d) n) (by first | exact He1.out | exact He1.out.drew) hbw4); replace Hp2 := Lib.hid (Rests.below (φ := IntD p2 (paN s x' d') n) (by first | exact Hp2.out | exact Hp2.out.drew) hbw4); replace He2 := Lib.hid (Rests.below (φ := IntD e2 (paD s d') n) (by first | exact He2.out | exact He2.out.drew) hbw4); replace Hbel := Lib.hid (Below.after (by first | exact Hbel.out | exact Below.drew Hbel.out) hbw4); have Hk2 := Lib.hid hk2; clear hk2; (try replace Hk1 := Lib.hid (Rests.below (φ := IntN k1 (paN r x d * paD s d')) (by first | exact Hk1.out | exact Hk1.out.drew) hbw4)); clear hbw4))
      | (go_at_call 32; go_must (refine (make_any _ k1 k2 (paN r x d * paD s d') (paD r d * paN s x' d') (n + n) (by omega) (by omega) (IntN.ofLt (by first | exact Hk1.out.now | exact Hk1.out.drew.now) (mul_lt HLp1.out HLe2.out)) (IntN.ofLt (by first | exact Hk2.out.now | exact Hk2.out.drew.now) (mul_lt HLe1.out HLp2.out)) (by first | exact HT.out.now | exact HT.out.drew.now)).mono ?_; rintro e w5 ⟨rr, rfl, hrr, hb5⟩; have hgl := HBr.out.lt; replace HBr := Lib.hid (Blk.below (by exact HBr.out) hb5 (by exact HBr.out.lt)); obtain ⟨sw5HBr0, sw5HBr1, sw5HBr2, sw5HBr3⟩ := Blk.c4 HBr.out; obtain ⟨fw5HBr0, fw5HBr1, fw5HBr2, fw5HBr3⟩ := Blk.f4 HBr.out; replace HP1 := Lib.hid (Blk.below (by exact HP1.out) hb5 (by exact HP1.out.lt)); obtain ⟨sw5HP10, sw5HP11⟩ := Blk.c2 HP1.out; replace HE1 := Lib.hid (Blk.below (by exact HE1.out) hb5 (by exact HE1.out.lt)); obtain ⟨sw5HE10, sw5HE11⟩ := Blk.c2 HE1.out; replace HP2 := Lib.hid (Blk.below (by exact HP2.out) hb5 (by exact HP2.out.lt)); obtain ⟨sw5HP20, sw5HP21⟩ := Blk.c2 HP2.out; replace HE2 := Lib.hid (Blk.below (by exact HE2.out) hb5 (by exact HE2.out.lt)); obtain ⟨sw5HE20, sw5HE21⟩ := Blk.c2 HE2.out; replace HT := Lib.hid (Rests.below (φ := Tz) (by first | exact HT.out | exact HT.out.drew) hb5); replace Hbel := Lib.hid (Below.after (by first | exact Hbel.out | exact Below.drew Hbel.out) hb5); have Hrr := Lib.hid (hrr.mono (G := (w.heap.size + 1 + 1 + 1 ≤ ·)) (fun b hb => Nat.le_trans hgl hb)); clear hrr hgl; clear hb5)))
  all_goals
    rw [← Hqq.out] at Hrr
    go_wp2_with fail
    have hfin : RetR (a / b) w (.returned (.agg #[.bool rr.num.neg, .slice rr.num.A rr.num.k rr.num.c, .bool rr.den.neg, .slice rr.den.A rr.den.k rr.den.c])) ((((w5.setCell ⟨w.heap.size + 1 + 1, 0, none⟩ (.bool rr.num.neg)).setCell ⟨w.heap.size + 1 + 1, 1, none⟩ (.slice rr.num.A rr.num.k rr.num.c)).setCell ⟨w.heap.size + 1 + 1, 2, none⟩ (.bool rr.den.neg)).setCell ⟨w.heap.size + 1 + 1, 3, none⟩ (.slice rr.den.A rr.den.k rr.den.c)) := ret_boxR (r := rr) (g := w.heap.size + 1 + 1) (w2 := w5) Hbel.out (by omega) Hrr.out (fun _ h => h)
    have b4 := box4 HBr.out (.bool rr.num.neg) (.slice rr.num.A rr.num.k rr.num.c) (.bool rr.den.neg) (.slice rr.den.A rr.den.k rr.den.c)
    have q0 : World.cell? ((((w5.setCell ⟨w.heap.size + 1 + 1, 0, none⟩ (.bool rr.num.neg)).setCell ⟨w.heap.size + 1 + 1, 1, none⟩ (.slice rr.num.A rr.num.k rr.num.c)).setCell ⟨w.heap.size + 1 + 1, 2, none⟩ (.bool rr.den.neg)).setCell ⟨w.heap.size + 1 + 1, 3, none⟩ (.slice rr.den.A rr.den.k rr.den.c)) ⟨w.heap.size + 1 + 1, 0, none⟩ = some (.bool rr.num.neg) := b4.cell 0
    have q1 : World.cell? ((((w5.setCell ⟨w.heap.size + 1 + 1, 0, none⟩ (.bool rr.num.neg)).setCell ⟨w.heap.size + 1 + 1, 1, none⟩ (.slice rr.num.A rr.num.k rr.num.c)).setCell ⟨w.heap.size + 1 + 1, 2, none⟩ (.bool rr.den.neg)).setCell ⟨w.heap.size + 1 + 1, 3, none⟩ (.slice rr.den.A rr.den.k rr.den.c)) ⟨w.heap.size + 1 + 1, 1, none⟩ = some (.slice rr.num.A rr.num.k rr.num.c) := b4.cell 1
    have q2 : World.cell? ((((w5.setCell ⟨w.heap.size + 1 + 1, 0, none⟩ (.bool rr.num.neg)).setCell ⟨w.heap.size + 1 + 1, 1, none⟩ (.slice rr.num.A rr.num.k rr.num.c)).setCell ⟨w.heap.size + 1 + 1, 2, none⟩ (.bool rr.den.neg)).setCell ⟨w.heap.size + 1 + 1, 3, none⟩ (.slice rr.den.A rr.den.k rr.den.c)) ⟨w.heap.size + 1 + 1, 2, none⟩ = some (.bool rr.den.neg) := b4.cell 2
    have q3 : World.cell? ((((w5.setCell ⟨w.heap.size + 1 + 1, 0, none⟩ (.bool rr.num.neg)).setCell ⟨w.heap.size + 1 + 1, 1, none⟩ (.slice rr.num.A rr.num.k rr.num.c)).setCell ⟨w.heap.size + 1 + 1, 2, none⟩ (.bool rr.den.neg)).setCell ⟨w.heap.size + 1 + 1, 3, none⟩ (.slice rr.den.A rr.den.k rr.den.c)) ⟨w.heap.size + 1 + 1, 3, none⟩ = some (.slice rr.den.A rr.den.k rr.den.c) := b4.cell 3
    clear b4 HBr Hbel
    generalize ((((w5.setCell ⟨w.heap.size + 1 + 1, 0, none⟩ (.bool rr.num.neg)).setCell ⟨w.heap.size + 1 + 1, 1, none⟩ (.slice rr.num.A rr.num.k rr.num.c)).setCell ⟨w.heap.size + 1 + 1, 2, none⟩ (.bool rr.den.neg)).setCell ⟨w.heap.size + 1 + 1, 3, none⟩ (.slice rr.den.A rr.den.k rr.den.c)) = W at *
    exact bodyPost_ret (v := .agg #[.bool rr.num.neg, .slice rr.num.A rr.num.k rr.num.c, .bool rr.den.neg, .slice rr.den.A rr.den.k rr.den.c]) (by simp [results, Tryz.results28, go_sem, q0, q1, q2, q3]) rfl hfin

end Go.Proofs.YtbdgeinfijamcaaGreatDoor
