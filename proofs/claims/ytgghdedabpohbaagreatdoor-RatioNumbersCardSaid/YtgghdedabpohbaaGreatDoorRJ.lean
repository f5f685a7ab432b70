/-
  ratio: Abs, Sign. whole.Cmp. ratio: Cmp, Same.
-/
import Derived.Test.YtgghdedabpohbaaGreatDoorRG
namespace Go.Proofs.YtgghdedabpohbaaGreatDoor
open Go.RowKit

theorem num_sign {a : Rat} {p d : Int} (hd : 0 < d) (h : a = Rat.divInt p d) : a.num.sign = p.sign := by
  have hp : 0 < (a.den : Int) := Int.natCast_pos.2 a.den_pos
  have e : a.num * d = p * a.den := by
    rw [← Rat.divInt_eq_divInt_iff (by omega) (by omega), Rat.num_divInt_den, ← h]
  have e2 := congrArg Int.sign e
  rw [Int.sign_mul, Int.sign_mul, Int.sign_eq_one_of_pos hd, Int.sign_eq_one_of_pos hp] at e2
  omega
def rabs (a : Rat) : Rat := if a.num < 0 then -a else a
theorem rabs_eq {a : Rat} {p d : Int} (hd : 0 < d) (h : a = Rat.divInt p d) : rabs a = Rat.divInt (p.natAbs : Int) d := by
  have hs := num_sign hd h
  unfold rabs
  by_cases hn : a.num < 0
  · rw [if_pos hn, h, Rat.neg_divInt]
    have : p < 0 := by rw [← Int.sign_eq_neg_one_iff_neg, ← hs, Int.sign_eq_neg_one_iff_neg]; exact hn
    rw [show ((p.natAbs : Nat) : Int) = -p by omega]
  · rw [if_neg hn]
    have : ¬ p < 0 := by intro hp; rw [← Int.sign_eq_neg_one_iff_neg, ← hs, Int.sign_eq_neg_one_iff_neg] at hp; exact hn hp
    rw [show ((p.natAbs : Nat) : Int) = p by omega]; exact h
theorem sgn3 (x : Int) : x.sign = -1 ∨ x.sign = 0 ∨ x.sign = 1 := by
  rcases Int.lt_trichotomy x 0 with h | h | h
  · exact .inl (Int.sign_eq_neg_one_of_neg h)
  · exact .inr (.inl (by rw [h]; rfl))
  · exact .inr (.inr (Int.sign_eq_one_of_pos h))
theorem sgn_div (x d : Int) : (Rat.divInt x d).num.sign = x.sign * d.sign := by
  rcases Int.lt_trichotomy d 0 with h | h | h
  · have : Rat.divInt x d = Rat.divInt (-x) (-d) := by rw [Rat.divInt_eq_divInt_iff (by omega) (by omega)]; simp [Int.neg_mul, Int.mul_neg]
    rw [this, num_sign (by omega) rfl, Int.sign_neg, Int.sign_eq_neg_one_of_neg h]; omega
  · rw [h, Rat.divInt_zero]; simp
  · rw [num_sign h rfl, Int.sign_eq_one_of_pos h]; omega

set_option maxRecDepth 100000 in
set_option maxHeartbeats 4000000 in
theorem rabs_any (w : World) (r : RV) (a : Rat) (n : Nat) (hn : n ≤ 400000000000) (h1n : 1 ≤ n) (h : RatD r a n w) (hT : Tz w) :
    Calls Tryz.prog 61 #[.agg #[.bool r.num.neg, .slice r.num.A r.num.k r.num.c, .bool r.den.neg, .slice r.den.A r.den.k r.den.c]] w (RetR (rabs a) w) := by
  obtain ⟨x, d, hx, hd, hq⟩ := h.ex
  have Hqq := Lib.hid (rabs_eq (paD_pos r d) (hq.trans (pa_eq r x d).symm))
  obtain ⟨W0, hW0⟩ : ∃ W0, W0 = ((w.alloc (.cells #[.bool r.num.neg, .slice r.num.A r.num.k r.num.c, .bool r.den.neg, .slice r.den.A r.den.k r.den.c] 50)).alloc (.cells #[.bool false, .slice none 0 0, .bool false, .slice none 0 0] 50)) := ⟨_, rfl⟩
  obtain ⟨p0, p1, pb⟩ := lay2 hW0
  have HBa := Lib.hid p0
  have HBr := Lib.hid p1
  have Hbel := Lib.hid pb
  have Hx := Lib.hid (Rests.al2 (hx.old) hW0)
  have Hd := Lib.hid (Rests.al2 (hd.old) hW0)
  have HT := Lib.hid (Rests.al2 (hT.old) hW0)
  clear p0 p1 pb
  subst hW0
  have ne01 : w.heap.size ≠ w.heap.size + 1 := by omega
  have ne10 : w.heap.size + 1 ≠ w.heap.size := by omega
  clear h hx hd hq hT
  go_enter Tryz.func61, Tryz.ntmps61
  go_wp2_with fail
  refine (parts_any _ r x d n (· < w.heap.size) (fun b hb => Nat.lt_of_lt_of_le hb Hbel.out.size) (by omega) h1n Hx.out Hd.out).mono ?_
  rintro e w1 ⟨p1, e1, rfl, hp, he, hbw1⟩
  replace HBa := Lib.hid (Blk.below (by exact HBa.out) hbw1 (by exact HBa.out.lt))
  obtain ⟨sw1HBa0, sw1HBa1, sw1HBa2, sw1HBa3⟩ := Blk.c4 HBa.out
  replace HBr := Lib.hid (Blk.below (by exact HBr.out) hbw1 (by exact HBr.out.lt))
  obtain ⟨sw1HBr0, sw1HBr1, sw1HBr2, sw1HBr3⟩ := Blk.c4 HBr.out
  obtain ⟨fw1HBr0, fw1HBr1, fw1HBr2, fw1HBr3⟩ := Blk.f4 HBr.out
  replace Hx := Lib.hid (Rests.below (φ := IntD r.num x n) (by first | exact Hx.out | exact Hx.out.drew) hbw1)
  replace Hd := Lib.hid (Rests.below (φ := IntD r.den d n) (by first | exact Hd.out | exact Hd.out.drew) hbw1)
  replace HT := Lib.hid (Rests.below (φ := Tz) (by first | exact HT.out | exact HT.out.drew) hbw1)
  replace Hbel := Lib.hid (Below.after (by first | exact Hbel.out | exact Below.drew Hbel.out) hbw1)
  have Hp1 := Lib.hid hp
  have He1 := Lib.hid he
  have HLp1 := Lib.hid hp.now.lt
  have HLe1 := Lib.hid he.now.lt
  clear hp he
  clear hbw1
  have lr1 : w.heap.size + 1 < w1.heap.size := HBr.out.lt
  have nr10 : w.heap.size + 1 ≠ w1.heap.size := by omega
  have nr11 : w1.heap.size ≠ w.heap.size + 1 := by omega
  have nr12 : w.heap.size + 1 ≠ w1.heap.size + 1 := by omega
  have nr13 : w1.heap.size + 1 ≠ w.heap.size + 1 := by omega
  have nr14 : w.heap.size ≠ w1.heap.size := by omega
  have nr15 : w1.heap.size ≠ w.heap.size := by omega
  replace HBa := Lib.hid ((HBa.out.alloc (.cells #[.bool p1.neg, .slice p1.A p1.k p1.c] 48)).alloc (.cells #[.bool e1.neg, .slice e1.A e1.k e1.c] 48))
  replace HBr := Lib.hid ((HBr.out.alloc (.cells #[.bool p1.neg, .slice p1.A p1.k p1.c] 48)).alloc (.cells #[.bool e1.neg, .slice e1.A e1.k e1.c] 48))
  replace Hx := Lib.hid ((Hx.out.alloc (.cells #[.bool p1.neg, .slice p1.A p1.k p1.c] 48)).alloc (.cells #[.bool e1.neg, .slice e1.A e1.k e1.c] 48))
  replace Hd := Lib.hid ((Hd.out.alloc (.cells #[.bool p1.neg, .slice p1.A p1.k p1.c] 48)).alloc (.cells #[.bool e1.neg, .slice e1.A e1.k e1.c] 48))
  replace HT := Lib.hid ((HT.out.alloc (.cells #[.bool p1.neg, .slice p1.A p1.k p1.c] 48)).alloc (.cells #[.bool e1.neg, .slice e1.A e1.k e1.c] 48))
  replace Hp1 := Lib.hid ((Hp1.out.alloc (.cells #[.bool p1.neg, .slice p1.A p1.k p1.c] 48)).alloc (.cells #[.bool e1.neg, .slice e1.A e1.k e1.c] 48))
  replace He1 := Lib.hid ((He1.out.alloc (.cells #[.bool p1.neg, .slice p1.A p1.k p1.c] 48)).alloc (.cells #[.bool e1.neg, .slice e1.A e1.k e1.c] 48))
  replace Hbel := Lib.hid ((Hbel.out.alloc Hbel.out.size (.cells #[.bool p1.neg, .slice p1.A p1.k p1.c] 48)).alloc (Nat.le_trans Hbel.out.size (by simp)) (.cells #[.bool e1.neg, .slice e1.A e1.k e1.c] 48))
  have HP1 := Lib.hid ((Blk.new w1 48 #[.bool p1.neg, .slice p1.A p1.k p1.c]).alloc (.cells #[.bool e1.neg, .slice e1.A e1.k e1.c] 48))
  have HE1 := Lib.hid (by have := Blk.new (w1.alloc (.cells #[.bool p1.neg, .slice p1.A p1.k p1.c] 48)) 48 #[.bool e1.neg, .slice e1.A e1.k e1.c]; simpa using this : Blk ((w1.alloc (.cells #[.bool p1.neg, .slice p1.A p1.k p1.c] 48)).alloc (.cells #[.bool e1.neg, .slice e1.A e1.k e1.c] 48)) (w1.heap.size + 1) 48 #[.bool e1.neg, .slice e1.A e1.k e1.c])
  have y1HBa0 : World.cell? _ ⟨w.heap.size, 0, none⟩ = some (.bool r.num.neg) := HBa.out.cell 0
  have y1HBa1 : World.cell? _ ⟨w.heap.size, 1, none⟩ = some (.slice r.num.A r.num.k r.num.c) := HBa.out.cell 1
  have y1HBa2 : World.cell? _ ⟨w.heap.size, 2, none⟩ = some (.bool r.den.neg) := HBa.out.cell 2
  have y1HBa3 : World.cell? _ ⟨w.heap.size, 3, none⟩ = some (.slice r.den.A r.den.k r.den.c) := HBa.out.cell 3
  have y1HBr0 : World.cell? _ ⟨w.heap.size + 1, 0, none⟩ = some (.bool false) := HBr.out.cell 0
  have y1HBr1 : World.cell? _ ⟨w.heap.size + 1, 1, none⟩ = some (.slice none 0 0) := HBr.out.cell 1
  have y1HBr2 : World.cell? _ ⟨w.heap.size + 1, 2, none⟩ = some (.bool false) := HBr.out.cell 2
  have y1HBr3 : World.cell? _ ⟨w.heap.size + 1, 3, none⟩ = some (.slice none 0 0) := HBr.out.cell 3
  have y1HP10 : World.cell? _ ⟨w1.heap.size, 0, none⟩ = some (.bool p1.neg) := HP1.out.cell 0
  have y1HP11 : World.cell? _ ⟨w1.heap.size, 1, none⟩ = some (.slice p1.A p1.k p1.c) := HP1.out.cell 1
  have y1HE10 : World.cell? _ ⟨w1.heap.size + 1, 0, none⟩ = some (.bool e1.neg) := HE1.out.cell 0
  have y1HE11 : World.cell? _ ⟨w1.heap.size + 1, 1, none⟩ = some (.slice e1.A e1.k e1.c) := HE1.out.cell 1
  go_wp2_with fail
  go_region_held3 (fun W => W.cell? ⟨w1.heap.size, 0, none⟩ = some (.bool p1.neg) ∧ W.cell? ⟨w1.heap.size, 1, none⟩ = some (.slice p1.A p1.k p1.c) ∧ W.cell? ⟨w1.heap.size + 1, 0, none⟩ = some (.bool e1.neg) ∧ W.cell? ⟨w1.heap.size + 1, 1, none⟩ = some (.slice e1.A e1.k e1.c)) (go_keep)
    (first
      | (go_at_call 154; go_must (refine (wabs_any _ p1 (paN r x d) n (by omega) (by first | exact Hp1.out.now | exact Hp1.out.drew.now)).mono ?_; rintro e w3 ⟨k1, rfl, hk1, hb3⟩; replace HBr := Lib.hid (Blk.below (by exact HBr.out) hb3 (by exact HBr.out.lt)); obtain ⟨sw3HBr0, sw3HBr1, sw3HBr2, sw3HBr3⟩ := Blk.c4 HBr.out; obtain ⟨fw3HBr0, fw3HBr1, fw3HBr2, fw3HBr3⟩ := Blk.f4 HBr.out; replace HP1 := Lib.hid (Blk.below (by exact HP1.out) hb3 (by exact HP1.out.lt)); obtain ⟨sw3HP10, sw3HP11⟩ := Blk.c2 HP1.out; replace HE1 := Lib.hid (Blk.below (by exact HE1.out) hb3 (by exact HE1.out.lt)); obtain ⟨sw3HE10, sw3HE11⟩ := Blk.c2 HE1.out; replace HT := Lib.hid (Rests.below (φ := Tz) (by first | exact HT.out | exact HT.out.drew) hb3); replace Hp1 := Lib.hid (Rests.below (φ := IntD p1 (paN r x d) n) (by first | exact Hp1.out | exact Hp1.out.drew) hb3); replace He1 := Lib.hid (Rests.below (φ := IntD e1 (paD r d) n) (by first | exact He1.out | exact He1.out.drew) hb3); replace Hbel := Lib.hid (Below.after (by first | exact Hbel.out | exact Below.drew Hbel.out) hb3); have Hk1 := Lib.hid hk1; clear hk1; clear hb3))
      | (go_at_call 151; go_must (refine (lowest_any _ k1 e1 (((paN r x d).natAbs : Int)) (paD r d) (n) (by omega) (IntN.ofLt (by first | exact Hk1.out.now | exact Hk1.out.drew.now) (by rw [Int.natAbs_natCast] <;> exact HLp1.out)) (by first | exact He1.out.now | exact He1.out.drew.now) (by first | exact HT.out.now | exact HT.out.drew.now) (paD_pos r d)).mono ?_; rintro e w5 ⟨rr, rfl, hrr, hb5⟩; have hgl := HBr.out.lt; replace HBr := Lib.hid (Blk.below (by exact HBr.out) hb5 (by exact HBr.out.lt)); obtain ⟨sw5HBr0, sw5HBr1, sw5HBr2, sw5HBr3⟩ := Blk.c4 HBr.out; obtain ⟨fw5HBr0, fw5HBr1, fw5HBr2, fw5HBr3⟩ := Blk.f4 HBr.out; replace HP1 := Lib.hid (Blk.below (by exact HP1.out) hb5 (by exact HP1.out.lt)); obtain ⟨sw5HP10, sw5HP11⟩ := Blk.c2 HP1.out; replace HE1 := Lib.hid (Blk.below (by exact HE1.out) hb5 (by exact HE1.out.lt)); obtain ⟨sw5HE10, sw5HE11⟩ := Blk.c2 HE1.out; replace HT := Lib.hid (Rests.below (φ := Tz) (by first | exact HT.out | exact HT.out.drew) hb5); replace Hbel := Lib.hid (Below.after (by first | exact Hbel.out | exact Below.drew Hbel.out) hb5); have Hrr := Lib.hid (hrr.mono (G := (w.heap.size + 1 + 1 ≤ ·)) (fun b hb => Nat.le_trans hgl hb)); clear hrr hgl; clear hb5)))
  all_goals
    rw [← Hqq.out] at Hrr
    go_wp2_with fail
    have hfin : RetR (rabs a) w (.returned (.agg #[.bool rr.num.neg, .slice rr.num.A rr.num.k rr.num.c, .bool rr.den.neg, .slice rr.den.A rr.den.k rr.den.c])) ((((w5.setCell ⟨w.heap.size + 1, 0, none⟩ (.bool rr.num.neg)).setCell ⟨w.heap.size + 1, 1, none⟩ (.slice rr.num.A rr.num.k rr.num.c)).setCell ⟨w.heap.size + 1, 2, none⟩ (.bool rr.den.neg)).setCell ⟨w.heap.size + 1, 3, none⟩ (.slice rr.den.A rr.den.k rr.den.c)) := ret_boxR (r := rr) (g := w.heap.size + 1) (w2 := w5) Hbel.out (by omega) Hrr.out (fun _ h => h)
    have b4 := box4 HBr.out (.bool rr.num.neg) (.slice rr.num.A rr.num.k rr.num.c) (.bool rr.den.neg) (.slice rr.den.A rr.den.k rr.den.c)
    have q0 : World.cell? ((((w5.setCell ⟨w.heap.size + 1, 0, none⟩ (.bool rr.num.neg)).setCell ⟨w.heap.size + 1, 1, none⟩ (.slice rr.num.A rr.num.k rr.num.c)).setCell ⟨w.heap.size + 1, 2, none⟩ (.bool rr.den.neg)).setCell ⟨w.heap.size + 1, 3, none⟩ (.slice rr.den.A rr.den.k rr.den.c)) ⟨w.heap.size + 1, 0, none⟩ = some (.bool rr.num.neg) := b4.cell 0
    have q1 : World.cell? ((((w5.setCell ⟨w.heap.size + 1, 0, none⟩ (.bool rr.num.neg)).setCell ⟨w.heap.size + 1, 1, none⟩ (.slice rr.num.A rr.num.k rr.num.c)).setCell ⟨w.heap.size + 1, 2, none⟩ (.bool rr.den.neg)).setCell ⟨w.heap.size + 1, 3, none⟩ (.slice rr.den.A rr.den.k rr.den.c)) ⟨w.heap.size + 1, 1, none⟩ = some (.slice rr.num.A rr.num.k rr.num.c) := b4.cell 1
    have q2 : World.cell? ((((w5.setCell ⟨w.heap.size + 1, 0, none⟩ (.bool rr.num.neg)).setCell ⟨w.heap.size + 1, 1, none⟩ (.slice rr.num.A rr.num.k rr.num.c)).setCell ⟨w.heap.size + 1, 2, none⟩ (.bool rr.den.neg)).setCell ⟨w.heap.size + 1, 3, none⟩ (.slice rr.den.A rr.den.k rr.den.c)) ⟨w.heap.size + 1, 2, none⟩ = some (.bool rr.den.neg) := b4.cell 2
    have q3 : World.cell? ((((w5.setCell ⟨w.heap.size + 1, 0, none⟩ (.bool rr.num.neg)).setCell ⟨w.heap.size + 1, 1, none⟩ (.slice rr.num.A rr.num.k rr.num.c)).setCell ⟨w.heap.size + 1, 2, none⟩ (.bool rr.den.neg)).setCell ⟨w.heap.size + 1, 3, none⟩ (.slice rr.den.A rr.den.k rr.den.c)) ⟨w.heap.size + 1, 3, none⟩ = some (.slice rr.den.A rr.den.k rr.den.c) := b4.cell 3
    clear b4 HBr Hbel
    generalize ((((w5.setCell ⟨w.heap.size + 1, 0, none⟩ (.bool rr.num.neg)).setCell ⟨w.heap.size + 1, 1, none⟩ (.slice rr.num.A rr.num.k rr.num.c)).setCell ⟨w.heap.size + 1, 2, none⟩ (.bool rr.den.neg)).setCell ⟨w.heap.size + 1, 3, none⟩ (.slice rr.den.A rr.den.k rr.den.c)) = W at *
    exact bodyPost_ret (v := .agg #[.bool rr.num.neg, .slice rr.num.A rr.num.k rr.num.c, .bool rr.den.neg, .slice rr.den.A rr.den.k rr.den.c]) (by simp [results, Tryz.results61, go_sem, q0, q1, q2, q3]) rfl hfin

set_option maxRecDepth 100000 in
set_option maxHeartbeats 1000000 in
theorem rsign_one (w : World) (r : RV) (a : Rat) (n : Nat) (hn : n ≤ 400000000000) (h : RatD r a n w) (hk : r.den.k = 0) :
    Calls Tryz.prog 54 #[.agg #[.bool r.num.neg, .slice r.num.A r.num.k r.num.c, .bool r.den.neg, .slice r.den.A r.den.k r.den.c]] w fun e w' => e = .returned (.int .i64 a.num.sign) ∧ Below w.heap.size w w' := by
  obtain ⟨x, d, hx, hd, hq⟩ := h.ex
  have Hqq := Lib.hid (show a.num.sign = x.sign from by rw [if_pos hk] at hq; rw [hq, sgn_div]; simp)
  obtain ⟨sx, hsx⟩ : ∃ v, v = x.sign := ⟨_, rfl⟩
  obtain ⟨sd, hsd⟩ : ∃ v, v = d.sign := ⟨_, rfl⟩
  have h3 := sgn3 x
  have h3' := sgn3 d
  have HSx := Lib.hid hsx
  have HSd := Lib.hid hsd
  rw [← hsx] at h3
  rw [← hsd] at h3'
  have hg1 : ¬ 0 < r.den.k := by omega
  obtain ⟨W0, hW0⟩ : ∃ W0, W0 = (w.alloc (.cells #[.bool r.num.neg, .slice r.num.A r.num.k r.num.c, .bool r.den.neg, .slice r.den.A r.den.k r.den.c] 50)) := ⟨_, rfl⟩
  obtain ⟨p0, pb⟩ := lay1 hW0
  have HBa := Lib.hid p0
  have Hbel := Lib.hid pb
  have Hx := Lib.hid (Rests.al1 (hx.old) hW0)
  have Hd := Lib.hid (Rests.al1 (hd.old) hW0)
  clear p0 pb
  subst hW0
  clear h hx hd hq hk hsx hsd
  clear h3 h3'
  go_enter Tryz.func54, Tryz.ntmps54
  go_wp2_with fail
  refine (wsign_any _ r.num x n (by omega) (by first | exact Hx.out.now | exact Hx.out.drew.now)).mono ?_
  rintro e w1 ⟨rfl, hb1⟩
  replace HBa := Lib.hid (Blk.below (by exact HBa.out) hb1 (by exact HBa.out.lt))
  obtain ⟨sw1HBa0, sw1HBa1, sw1HBa2, sw1HBa3⟩ := Blk.c4 HBa.out
  replace Hd := Lib.hid (Rests.below (φ := IntD r.den d n) (by first | exact Hd.out | exact Hd.out.drew) hb1)
  replace Hbel := Lib.hid (Below.after (by first | exact Hbel.out | exact Below.drew Hbel.out) hb1)
  clear hb1
  go_wp2_with fail
  go_ret
  exact ⟨by rw [Hqq.out]; rfl, Hbel.out⟩

set_option maxRecDepth 100000 in
set_option maxHeartbeats 1000000 in
theorem rsign_more (w : World) (r : RV) (a : Rat) (n : Nat) (hn : n ≤ 400000000000) (h : RatD r a n w) (hk : r.den.k ≠ 0) :
    Calls Tryz.prog 54 #[.agg #[.bool r.num.neg, .slice r.num.A r.num.k r.num.c, .bool r.den.neg, .slice r.den.A r.den.k r.den.c]] w fun e w' => e = .returned (.int .i64 a.num.sign) ∧ Below w.heap.size w w' := by
  obtain ⟨x, d, hx, hd, hq⟩ := h.ex
  have Hqq := Lib.hid (show a.num.sign = x.sign * d.sign from by rw [if_neg hk] at hq; rw [hq, sgn_div])
  obtain ⟨sx, hsx⟩ : ∃ v, v = x.sign := ⟨_, rfl⟩
  obtain ⟨sd, hsd⟩ : ∃ v, v = d.sign := ⟨_, rfl⟩
  have h3 := sgn3 x
  have h3' := sgn3 d
  have HSx := Lib.hid hsx
  have HSd := Lib.hid hsd
  rw [← hsx] at h3
  rw [← hsd] at h3'
  have hg1 : 0 < r.den.k := by omega
  obtain ⟨W0, hW0⟩ : ∃ W0, W0 = (w.alloc (.cells #[.bool r.num.neg, .slice r.num.A r.num.k r.num.c, .bool r.den.neg, .slice r.den.A r.den.k r.den.c] 50)) := ⟨_, rfl⟩
  obtain ⟨p0, pb⟩ := lay1 hW0
  have HBa := Lib.hid p0
  have Hbel := Lib.hid pb
  have Hx := Lib.hid (Rests.al1 (hx.old) hW0)
  have Hd := Lib.hid (Rests.al1 (hd.old) hW0)
  clear p0 pb
  subst hW0
  clear h hx hd hq hk hsx hsd
  rcases h3 with rfl | rfl | rfl <;> rcases h3' with rfl | rfl | rfl
  all_goals
    go_enter Tryz.func54, Tryz.ntmps54
    go_wp2_with fail
    refine (wsign_any _ r.num x n (by omega) (by first | exact Hx.out.now | exact Hx.out.drew.now)).mono ?_
    rintro e w1 ⟨rfl, hb1⟩
    replace HBa := Lib.hid (Blk.below (by exact HBa.out) hb1 (by exact HBa.out.lt))
    obtain ⟨sw1HBa0, sw1HBa1, sw1HBa2, sw1HBa3⟩ := Blk.c4 HBa.out
    replace Hd := Lib.hid (Rests.below (φ := IntD r.den d n) (by first | exact Hd.out | exact Hd.out.drew) hb1)
    replace Hbel := Lib.hid (Below.after (by first | exact Hbel.out | exact Below.drew Hbel.out) hb1)
    clear hb1
    rw [← HSx.out]
    go_wp2_with fail
    refine (wsign_any _ r.den d n (by omega) (by first | exact Hd.out.now | exact Hd.out.drew.now)).mono ?_
    rintro e w2 ⟨rfl, hb2⟩
    replace Hbel := Lib.hid (Below.after (by first | exact Hbel.out | exact Below.drew Hbel.out) hb2)
    clear hb2
    rw [← HSd.out]
    go_wp2_with fail
    go_ret
    exact ⟨by rw [Hqq.out, ← HSx.out, ← HSd.out]; rfl, Hbel.out⟩

theorem rsign_any (w : World) (r : RV) (a : Rat) (n : Nat) (hn : n ≤ 400000000000) (h : RatD r a n w) :
    Calls Tryz.prog 54 #[.agg #[.bool r.num.neg, .slice r.num.A r.num.k r.num.c, .bool r.den.neg, .slice r.den.A r.den.k r.den.c]] w fun e w' => e = .returned (.int .i64 a.num.sign) ∧ Below w.heap.size w w' := by
  by_cases hk : r.den.k = 0
  · exact rsign_one w r a n hn h hk
  · exact rsign_more w r a n hn h hk
end Go.Proofs.YtgghdedabpohbaaGreatDoor
namespace Go.Proofs.YtgghdedabpohbaaGreatDoor
open Go.RowKit

def cmpZ (a b : Int) : Int := if a < b then -1 else if a = b then 0 else 1
set_option maxHeartbeats 400000 in
theorem compare_z (a b : Int) (w : World) : Calls Tryz.prog 219 #[.int .i64 a, .int .i64 b] w fun e w' => e = .returned (.int .i64 (cmpZ a b)) ∧ w = w' := by
  unfold cmpZ
  by_cases h1 : a < b
  · rw [if_pos h1]
    have h2 : ¬ b < a := by omega
    go_enter Tryz.func219, Tryz.ntmps219
    go_wp2
    go_ret
    exact ⟨rfl, rfl⟩
  · rw [if_neg h1]
    by_cases h2 : a = b
    · subst h2
      rw [if_pos rfl]
      go_enter Tryz.func219, Tryz.ntmps219
      go_wp2
      go_ret
      exact ⟨rfl, rfl⟩
    · rw [if_neg h2]
      have h3 : b < a := by omega
      go_enter Tryz.func219, Tryz.ntmps219
      go_wp2
      go_ret
      exact ⟨rfl, rfl⟩
theorem sgz_neg {z : Int} (h : z.sign = -1) : z < 0 := Int.sign_eq_neg_one_iff_neg.1 h
theorem sgz_zero {z : Int} (h : z.sign = 0) : z = 0 := Int.sign_eq_zero_iff_zero.1 h
theorem sgz_pos {z : Int} (h : z.sign = 1) : 0 < z := Int.sign_eq_one_iff_pos.1 h

set_option maxRecDepth 100000 in
set_option maxHeartbeats 1000000 in
theorem wcmp_neg_neg (w : World) (i j : IV) (z y : Int) (n m : Nat) (hn : n ≤ 900000000000) (hm : m ≤ 900000000000) (h : IntD i z n w) (h' : IntD j y m w) (hz : z.sign = -1) (hy : y.sign = -1) :
    Calls Tryz.prog 142 #[.agg #[.bool i.neg, .slice i.A i.k i.c], .agg #[.bool j.neg, .slice j.A j.k j.c]] w fun e w' => e = .returned (.int .i64 (cmpZ z y)) ∧ Below w.heap.size w w' := by
  have Hqq := Lib.hid (show cmpZ z y = cmpN y.natAbs z.natAbs from by
    have h1 := sgz_neg hz
    have h2 := sgz_neg hy
    unfold cmpZ cmpN
    (repeat' split) <;> omega)
  have Hsz := Lib.hid hz
  have Hsy := Lib.hid hy
  obtain ⟨W0, hW0⟩ : ∃ W0, W0 = ((w.alloc (.cells #[.bool i.neg, .slice i.A i.k i.c] 48)).alloc (.cells #[.bool j.neg, .slice j.A j.k j.c] 48)) := ⟨_, rfl⟩
  obtain ⟨p0, p1, pb⟩ := lay2 hW0
  have HBa := Lib.hid p0
  have HBb := Lib.hid p1
  have Hbel := Lib.hid pb
  have Hi := Lib.hid (Rests.al2 (h.old) hW0)
  have Hj := Lib.hid (Rests.al2 (h'.old) hW0)
  clear p0 p1 pb
  subst hW0
  have ne01 : w.heap.size ≠ w.heap.size + 1 := by omega
  have ne10 : w.heap.size + 1 ≠ w.heap.size := by omega
  clear h h' hz hy
  go_enter Tryz.func142, Tryz.ntmps142
  go_wp2_with fail
  go_region_held3 (fun W => W.cell? ⟨w.heap.size, 0, none⟩ = some (.bool i.neg) ∧ W.cell? ⟨w.heap.size, 1, none⟩ = some (.slice i.A i.k i.c) ∧ W.cell? ⟨w.heap.size + 1, 0, none⟩ = some (.bool j.neg) ∧ W.cell? ⟨w.heap.size + 1, 1, none⟩ = some (.slice j.A j.k j.c)) (go_keep)
    (first
      | (go_at_call_of 150 (Value.agg #[.bool i.neg, .slice i.A i.k i.c]); go_must (refine (wsign_any _ i z n (by omega) (by first | exact Hi.out.now | exact Hi.out.drew.now)).mono ?_; rintro e w1 ⟨rfl, hb1⟩; replace HBa := Lib.hid (Blk.below (by exact HBa.out) hb1 (by exact HBa.out.lt)); obtain ⟨sw1HBa0, sw1HBa1⟩ := Blk.c2 HBa.out; replace HBb := Lib.hid (Blk.below (by exact HBb.out) hb1 (by exact HBb.out.lt)); obtain ⟨sw1HBb0, sw1HBb1⟩ := Blk.c2 HBb.out; replace Hi := Lib.hid (Rests.below (φ := IntD i z n) (by first | exact Hi.out | exact Hi.out.drew) hb1); replace Hj := Lib.hid (Rests.below (φ := IntD j y m) (by first | exact Hj.out | exact Hj.out.drew) hb1); replace Hbel := Lib.hid (Below.after (by first | exact Hbel.out | exact Below.drew Hbel.out) hb1); rw [Hsz.out]; clear hb1))
      | (go_at_call_of 150 (Value.agg #[.bool j.neg, .slice j.A j.k j.c]); go_must (refine (wsign_any _ j y m (by omega) (by first | exact Hj.out.now | exact Hj.out.drew.now)).mono ?_; rintro e w2 ⟨rfl, hb2⟩; replace HBa := Lib.hid (Blk.below (by exact HBa.out) hb2 (by exact HBa.out.lt)); obtain ⟨sw2HBa0, sw2HBa1⟩ := Blk.c2 HBa.out; replace HBb := Lib.hid (Blk.below (by exact HBb.out) hb2 (by exact HBb.out.lt)); obtain ⟨sw2HBb0, sw2HBb1⟩ := Blk.c2 HBb.out; replace Hi := Lib.hid (Rests.below (φ := IntD i z n) (by first | exact Hi.out | exact Hi.out.drew) hb2); replace Hj := Lib.hid (Rests.below (φ := IntD j y m) (by first | exact Hj.out | exact Hj.out.drew) hb2); replace Hbel := Lib.hid (Below.after (by first | exact Hbel.out | exact Below.drew Hbel.out) hb2); rw [Hsy.out]; clear hb2)))
  all_goals
    go_wp2_with fail
    refine (cmp_i (by first | exact Hj.out.now | exact Hj.out.drew.now) (by first | exact Hi.out.now | exact Hi.out.drew.now) hm hn).mono ?_
    rintro e w' ⟨rfl, q, rfl⟩
    go_wp2_with fail
    go_ret
    exact ⟨by rw [Hqq.out]; rfl, by first | exact Below.drewN Hbel.out q | exact Below.drewN (Below.drew Hbel.out) q⟩

set_option maxRecDepth 100000 in
set_option maxHeartbeats 1000000 in
theorem wcmp_neg_zero (w : World) (i j : IV) (z y : Int) (n m : Nat) (hn : n ≤ 900000000000) (hm : m ≤ 900000000000) (h : IntD i z n w) (h' : IntD j y m w) (hz : z.sign = -1) (hy : y.sign = 0) :
    Calls Tryz.prog 142 #[.agg #[.bool i.neg, .slice i.A i.k i.c], .agg #[.bool j.neg, .slice j.A j.k j.c]] w fun e w' => e = .returned (.int .i64 (cmpZ z y)) ∧ Below w.heap.size w w' := by
  have Hqq := Lib.hid (show cmpZ z y = cmpZ (-1) (0) from by
    have h1 := sgz_neg hz
    have h2 := sgz_zero hy
    unfold cmpZ 
    (repeat' split) <;> omega)
  have Hsz := Lib.hid hz
  have Hsy := Lib.hid hy
  obtain ⟨W0, hW0⟩ : ∃ W0, W0 = ((w.alloc (.cells #[.bool i.neg, .slice i.A i.k i.c] 48)).alloc (.cells #[.bool j.neg, .slice j.A j.k j.c] 48)) := ⟨_, rfl⟩
  obtain ⟨p0, p1, pb⟩ := lay2 hW0
  have HBa := Lib.hid p0
  have HBb := Lib.hid p1
  have Hbel := Lib.hid pb
  have Hi := Lib.hid (Rests.al2 (h.old) hW0)
  have Hj := Lib.hid (Rests.al2 (h'.old) hW0)
  clear p0 p1 pb
  subst hW0
  have ne01 : w.heap.size ≠ w.heap.size + 1 := by omega
  have ne10 : w.heap.size + 1 ≠ w.heap.size := by omega
  clear h h' hz hy
  go_enter Tryz.func142, Tryz.ntmps142
  go_wp2_with fail
  go_region_held3 (fun W => W.cell? ⟨w.heap.size, 0, none⟩ = some (.bool i.neg) ∧ W.cell? ⟨w.heap.size, 1, none⟩ = some (.slice i.A i.k i.c) ∧ W.cell? ⟨w.heap.size + 1, 0, none⟩ = some (.bool j.neg) ∧ W.cell? ⟨w.heap.size + 1, 1, none⟩ = some (.slice j.A j.k j.c)) (go_keep)
    (first
      | (go_at_call_of 150 (Value.agg #[.bool i.neg, .slice i.A i.k i.c]); go_must (refine (wsign_any _ i z n (by omega) (by first | exact Hi.out.now | exact Hi.out.drew.now)).mono ?_; rintro e w1 ⟨rfl, hb1⟩; replace HBa := Lib.hid (Blk.below (by exact HBa.out) hb1 (by exact HBa.out.lt)); obtain ⟨sw1HBa0, sw1HBa1⟩ := Blk.c2 HBa.out; replace HBb := Lib.hid (Blk.below (by exact HBb.out) hb1 (by exact HBb.out.lt)); obtain ⟨sw1HBb0, sw1HBb1⟩ := Blk.c2 HBb.out; replace Hi := Lib.hid (Rests.below (φ := IntD i z n) (by first | exact Hi.out | exact Hi.out.drew) hb1); replace Hj := Lib.hid (Rests.below (φ := IntD j y m) (by first | exact Hj.out | exact Hj.out.drew) hb1); replace Hbel := Lib.hid (Below.after (by first | exact Hbel.out | exact Below.drew Hbel.out) hb1); rw [Hsz.out]; clear hb1))
      | (go_at_call_of 150 (Value.agg #[.bool j.neg, .slice j.A j.k j.c]); go_must (refine (wsign_any _ j y m (by omega) (by first | exact Hj.out.now | exact Hj.out.drew.now)).mono ?_; rintro e w2 ⟨rfl, hb2⟩; replace HBa := Lib.hid (Blk.below (by exact HBa.out) hb2 (by exact HBa.out.lt)); obtain ⟨sw2HBa0, sw2HBa1⟩ := Blk.c2 HBa.out; replace HBb := Lib.hid (Blk.below (by exact HBb.out) hb2 (by exact HBb.out.lt)); obtain ⟨sw2HBb0, sw2HBb1⟩ := Blk.c2 HBb.out; replace Hi := Lib.hid (Rests.below (φ := IntD i z n) (by first | exact Hi.out | exact Hi.out.drew) hb2); replace Hj := Lib.hid (Rests.below (φ := IntD j y m) (by first | exact Hj.out | exact Hj.out.drew) hb2); replace Hbel := Lib.hid (Below.after (by first | exact Hbel.out | exact Below.drew Hbel.out) hb2); rw [Hsy.out]; clear hb2)))
  all_goals
    go_wp2_with fail
    refine (compare_z (-1) (0) _).mono ?_
    rintro e w' ⟨rfl, rfl⟩
    go_wp2_with fail
    go_ret
    exact ⟨by rw [Hqq.out]; rfl, by first | exact Hbel.out | exact Below.drew Hbel.out⟩

set_option maxRecDepth 100000 in
set_option maxHeartbeats 1000000 in
theorem wcmp_neg_pos (w : World) (i j : IV) (z y : Int) (n m : Nat) (hn : n ≤ 900000000000) (hm : m ≤ 900000000000) (h : IntD i z n w) (h' : IntD j y m w) (hz : z.sign = -1) (hy : y.sign = 1) :
    Calls Tryz.prog 142 #[.agg #[.bool i.neg, .slice i.A i.k i.c], .agg #[.bool j.neg, .slice j.A j.k j.c]] w fun e w' => e = .returned (.int .i64 (cmpZ z y)) ∧ Below w.heap.size w w' := by
  have Hqq := Lib.hid (show cmpZ z y = cmpZ (-1) (1) from by
    have h1 := sgz_neg hz
    have h2 := sgz_pos hy
    unfold cmpZ 
    (repeat' split) <;> omega)
  have Hsz := Lib.hid hz
  have Hsy := Lib.hid hy
  obtain ⟨W0, hW0⟩ : ∃ W0, W0 = ((w.alloc (.cells #[.bool i.neg, .slice i.A i.k i.c] 48)).alloc (.cells #[.bool j.neg, .slice j.A j.k j.c] 48)) := ⟨_, rfl⟩
  obtain ⟨p0, p1, pb⟩ := lay2 hW0
  have HBa := Lib.hid p0
  have HBb := Lib.hid p1
  have Hbel := Lib.hid pb
  have Hi := Lib.hid (Rests.al2 (h.old) hW0)
  have Hj := Lib.hid (Rests.al2 (h'.old) hW0)
  clear p0 p1 pb
  subst hW0
  have ne01 : w.heap.size ≠ w.heap.size + 1 := by omega
  have ne10 : w.heap.size + 1 ≠ w.heap.size := by omega
  clear h h' hz hy
  go_enter Tryz.func142, Tryz.ntmps142
  go_wp2_with fail
  go_region_held3 (fun W => W.cell? ⟨w.heap.size, 0, none⟩ = some (.bool i.neg) ∧ W.cell? ⟨w.heap.size, 1, none⟩ = some (.slice i.A i.k i.c) ∧ W.cell? ⟨w.heap.size + 1, 0, none⟩ = some (.bool j.neg) ∧ W.cell? ⟨w.heap.size + 1, 1, none⟩ = some (.slice j.A j.k j.c)) (go_keep)
    (first
      | (go_at_call_of 150 (Value.agg #[.bool i.neg, .slice i.A i.k i.c]); go_must (refine (wsign_any _ i z n (by omega) (by first | exact Hi.out.now | exact Hi.out.drew.now)).mono ?_; rintro e w1 ⟨rfl, hb1⟩; replace HBa := Lib.hid (Blk.below (by exact HBa.out) hb1 (by exact HBa.out.lt)); obtain ⟨sw1HBa0, sw1HBa1⟩ := Blk.c2 HBa.out; replace HBb := Lib.hid (Blk.below (by exact HBb.out) hb1 (by exact HBb.out.lt)); obtain ⟨sw1HBb0, sw1HBb1⟩ := Blk.c2 HBb.out; replace Hi := Lib.hid (Rests.below (φ := IntD i z n) (by first | exact Hi.out | exact Hi.out.drew) hb1); replace Hj := Lib.hid (Rests.below (φ := IntD j y m) (by first | exact Hj.out | exact Hj.out.drew) hb1); replace Hbel := Lib.hid (Below.after (by first | exact Hbel.out | exact Below.drew Hbel.out) hb1); rw [Hsz.out]; clear hb1))
      | (go_at_call_of 150 (Value.agg #[.bool j.neg, .slice j.A j.k j.c]); go_must (refine (wsign_any _ j y m (by omega) (by first | exact Hj.out.now | exact Hj.out.drew.now)).mono ?_; rintro e w2 ⟨rfl, hb2⟩; replace HBa := Lib.hid (Blk.below (by exact HBa.out) hb2 (by exact HBa.out.lt)); obtain ⟨sw2HBa0, sw2HBa1⟩ := Blk.c2 HBa.out; replace HBb := Lib.hid (Blk.below (by exact HBb.out) hb2 (by exact HBb.out.lt)); obtain ⟨sw2HBb0, sw2HBb1⟩ := Blk.c2 HBb.out; replace Hi := Lib.hid (Rests.below (φ := IntD i z n) (by first | exact Hi.out | exact Hi.out.drew) hb2); replace Hj := Lib.hid (Rests.below (φ := IntD j y m) (by first | exact Hj.out | exact Hj.out.drew) hb2); replace Hbel := Lib.hid (Below.after (by first | exact Hbel.out | exact Below.drew Hbel.out) hb2); rw [Hsy.out]; clear hb2)))
  all_goals
    go_wp2_with fail
    refine (compare_z (-1) (1) _).mono ?_
    rintro e w' ⟨rfl, rfl⟩
    go_wp2_with fail
    go_ret
    exact ⟨by rw [Hqq.out]; rfl, by first | exact Hbel.out | exact Below.drew Hbel.out⟩

set_option maxRecDepth 100000 in
set_option maxHeartbeats 1000000 in
theorem wcmp_zero_neg (w : World) (i j : IV) (z y : Int) (n m : Nat) (hn : n ≤ 900000000000) (hm : m ≤ 900000000000) (h : IntD i z n w) (h' : IntD j y m w) (hz : z.sign = 0) (hy : y.sign = -1) :
    Calls Tryz.prog 142 #[.agg #[.bool i.neg, .slice i.A i.k i.c], .agg #[.bool j.neg, .slice j.A j.k j.c]] w fun e w' => e = .returned (.int .i64 (cmpZ z y)) ∧ Below w.heap.size w w' := by
  have Hqq := Lib.hid (show cmpZ z y = cmpZ (0) (-1) from by
    have h1 := sgz_zero hz
    have h2 := sgz_neg hy
    unfold cmpZ 
    (repeat' split) <;> omega)
  have Hsz := Lib.hid hz
  have Hsy := Lib.hid hy
  obtain ⟨W0, hW0⟩ : ∃ W0, W0 = ((w.alloc (.cells #[.bool i.neg, .slice i.A i.k i.c] 48)).alloc (.cells #[.bool j.neg, .slice j.A j.k j.c] 48)) := ⟨_, rfl⟩
  obtain ⟨p0, p1, pb⟩ := lay2 hW0
  have HBa := Lib.hid p0
  have HBb := Lib.hid p1
  have Hbel := Lib.hid pb
  have Hi := Lib.hid (Rests.al2 (h.old) hW0)
  have Hj := Lib.hid (Rests.al2 (h'.old) hW0)
  clear p0 p1 pb
  subst hW0
  have ne01 : w.heap.size ≠ w.heap.size + 1 := by omega
  have ne10 : w.heap.size + 1 ≠ w.heap.size := by omega
  clear h h' hz hy
  go_enter Tryz.func142, Tryz.ntmps142
  go_wp2_with fail
  go_region_held3 (fun W => W.cell? ⟨w.heap.size, 0, none⟩ = some (.bool i.neg) ∧ W.cell? ⟨w.heap.size, 1, none⟩ = some (.slice i.A i.k i.c) ∧ W.cell? ⟨w.heap.size + 1, 0, none⟩ = some (.bool j.neg) ∧ W.cell? ⟨w.heap.size + 1, 1, none⟩ = some (.slice j.A j.k j.c)) (go_keep)
    (first
      | (go_at_call_of 150 (Value.agg #[.bool i.neg, .slice i.A i.k i.c]); go_must (refine (wsign_any _ i z n (by omega) (by first | exact Hi.out.now | exact Hi.out.drew.now)).mono ?_; rintro e w1 ⟨rfl, hb1⟩; replace HBa := Lib.hid (Blk.below (by exact HBa.out) hb1 (by exact HBa.out.lt)); obtain ⟨sw1HBa0, sw1HBa1⟩ := Blk.c2 HBa.out; replace HBb := Lib.hid (Blk.below (by exact HBb.out) hb1 (by exact HBb.out.lt)); obtain ⟨sw1HBb0, sw1HBb1⟩ := Blk.c2 HBb.out; replace Hi := Lib.hid (Rests.below (φ := IntD i z n) (by first | exact Hi.out | exact Hi.out.drew) hb1); replace Hj := Lib.hid (Rests.below (φ := IntD j y m) (by first | exact Hj.out | exact Hj.out.drew) hb1); replace Hbel := Lib.hid (Below.after (by first | exact Hbel.out | exact Below.drew Hbel.out) hb1); rw [Hsz.out]; clear hb1))
      | (go_at_call_of 150 (Value.agg #[.bool j.neg, .slice j.A j.k j.c]); go_must (refine (wsign_any _ j y m (by omega) (by first | exact Hj.out.now | exact Hj.out.drew.now)).mono ?_; rintro e w2 ⟨rfl, hb2⟩; replace HBa := Lib.hid (Blk.below (by exact HBa.out) hb2 (by exact HBa.out.lt)); obtain ⟨sw2HBa0, sw2HBa1⟩ := Blk.c2 HBa.out; replace HBb := Lib.hid (Blk.below (by exact HBb.out) hb2 (by exact HBb.out.lt)); obtain ⟨sw2HBb0, sw2HBb1⟩ := Blk.c2 HBb.out; replace Hi := Lib.hid (Rests.below (φ := IntD i z n) (by first | exact Hi.out | exact Hi.out.drew) hb2); replace Hj := Lib.hid (Rests.below (φ := IntD j y m) (by first | exact Hj.out | exact Hj.out.drew) hb2); replace Hbel := Lib.hid (Below.after (by first | exact Hbel.out | exact Below.drew Hbel.out) hb2); rw [Hsy.out]; clear hb2)))
  all_goals
    go_wp2_with fail
    refine (compare_z (0) (-1) _).mono ?_
    rintro e w' ⟨rfl, rfl⟩
    go_wp2_with fail
    go_ret
    exact ⟨by rw [Hqq.out]; rfl, by first | exact Hbel.out | exact Below.drew Hbel.out⟩

set_option maxRecDepth 100000 in
set_option maxHeartbeats 1000000 in
theorem wcmp_zero_zero (w : World) (i j : IV) (z y : Int) (n m : Nat) (hn : n ≤ 900000000000) (hm : m ≤ 900000000000) (h : IntD i z n w) (h' : IntD j y m w) (hz : z.sign = 0) (hy : y.sign = 0) :
    Calls Tryz.prog 142 #[.agg #[.bool i.neg, .slice i.A i.k i.c], .agg #[.bool j.neg, .slice j.A j.k j.c]] w fun e w' => e = .returned (.int .i64 (cmpZ z y)) ∧ Below w.heap.size w w' := by
  have Hqq := Lib.hid (show cmpZ z y = cmpN z.natAbs y.natAbs from by
    have h1 := sgz_zero hz
    have h2 := sgz_zero hy
    unfold cmpZ cmpN
    (repeat' split) <;> omega)
  have Hsz := Lib.hid hz
  have Hsy := Lib.hid hy
  obtain ⟨W0, hW0⟩ : ∃ W0, W0 = ((w.alloc (.cells #[.bool i.neg, .slice i.A i.k i.c] 48)).alloc (.cells #[.bool j.neg, .slice j.A j.k j.c] 48)) := ⟨_, rfl⟩
  obtain ⟨p0, p1, pb⟩ := lay2 hW0
  have HBa := Lib.hid p0
  have HBb := Lib.hid p1
  have Hbel := Lib.hid pb
  have Hi := Lib.hid (Rests.al2 (h.old) hW0)
  have Hj := Lib.hid (Rests.al2 (h'.old) hW0)
  clear p0 p1 pb
  subst hW0
  have ne01 : w.heap.size ≠ w.heap.size + 1 := by omega
  have ne10 : w.heap.size + 1 ≠ w.heap.size := by omega
  clear h h' hz hy
  go_enter Tryz.func142, Tryz.ntmps142
  go_wp2_with fail
  go_region_held3 (fun W => W.cell? ⟨w.heap.size, 0, none⟩ = some (.bool i.neg) ∧ W.cell? ⟨w.heap.size, 1, none⟩ = some (.slice i.A i.k i.c) ∧ W.cell? ⟨w.heap.size + 1, 0, none⟩ = some (.bool j.neg) ∧ W.cell? ⟨w.heap.size + 1, 1, none⟩ = some (.slice j.A j.k j.c)) (go_keep)
    (first
      | (go_at_call_of 150 (Value.agg #[.bool i.neg, .slice i.A i.k i.c]); go_must (refine (wsign_any _ i z n (by omega) (by first | exact Hi.out.now | exact Hi.out.drew.now)).mono ?_; rintro e w1 ⟨rfl, hb1⟩; replace HBa := Lib.hid (Blk.below (by exact HBa.out) hb1 (by exact HBa.out.lt)); obtain ⟨sw1HBa0, sw1HBa1⟩ := Blk.c2 HBa.out; replace HBb := Lib.hid (Blk.below (by exact HBb.out) hb1 (by exact HBb.out.lt)); obtain ⟨sw1HBb0, sw1HBb1⟩ := Blk.c2 HBb.out; replace Hi := Lib.hid (Rests.below (φ := IntD i z n) (by first | exact Hi.out | exact Hi.out.drew) hb1); replace Hj := Lib.hid (Rests.below (φ := IntD j y m) (by first | exact Hj.out | exact Hj.out.drew) hb1); replace Hbel := Lib.hid (Below.after (by first | exact Hbel.out | exact Below.drew Hbel.out) hb1); rw [Hsz.out]; clear hb1))
      | (go_at_call_of 150 (Value.agg #[.bool j.neg, .slice j.A j.k j.c]); go_must (refine (wsign_any _ j y m (by omega) (by first | exact Hj.out.now | exact Hj.out.drew.now)).mono ?_; rintro e w2 ⟨rfl, hb2⟩; replace HBa := Lib.hid (Blk.below (by exact HBa.out) hb2 (by exact HBa.out.lt)); obtain ⟨sw2HBa0, sw2HBa1⟩ := Blk.c2 HBa.out; replace HBb := Lib.hid (Blk.below (by exact HBb.out) hb2 (by exact HBb.out.lt)); obtain ⟨sw2HBb0, sw2HBb1⟩ := Blk.c2 HBb.out; replace Hi := Lib.hid (Rests.below (φ := IntD i z n) (by first | exact Hi.out | exact Hi.out.drew) hb2); replace Hj := Lib.hid (Rests.below (φ := IntD j y m) (by first | exact Hj.out | exact Hj.out.drew) hb2); replace Hbel := Lib.hid (Below.after (by first | exact Hbel.out | exact Below.drew Hbel.out) hb2); rw [Hsy.out]; clear hb2)))
  all_goals
    go_wp2_with fail
    refine (cmp_i (by first | exact Hi.out.now | exact Hi.out.drew.now) (by first | exact Hj.out.now | exact Hj.out.drew.now) hn hm).mono ?_
    rintro e w' ⟨rfl, q, rfl⟩
    go_wp2_with fail
    go_ret
    exact ⟨by rw [Hqq.out]; rfl, by first | exact Below.drewN Hbel.out q | exact Below.drewN (Below.drew Hbel.out) q⟩

set_option maxRecDepth 100000 in
set_option maxHeartbeats 1000000 in
theorem wcmp_zero_pos (w : World) (i j : IV) (z y : Int) (n m : Nat) (hn : n ≤ 900000000000) (hm : m ≤ 900000000000) (h : IntD i z n w) (h' : IntD j y m w) (hz : z.sign = 0) (hy : y.sign = 1) :
    Calls Tryz.prog 142 #[.agg #[.bool i.neg, .slice i.A i.k i.c], .agg #[.bool j.neg, .slice j.A j.k j.c]] w fun e w' => e = .returned (.int .i64 (cmpZ z y)) ∧ Below w.heap.size w w' := by
  have Hqq := Lib.hid (show cmpZ z y = cmpZ (0) (1) from by
    have h1 := sgz_zero hz
    have h2 := sgz_pos hy
    unfold cmpZ 
    (repeat' split) <;> omega)
  have Hsz := Lib.hid hz
  have Hsy := Lib.hid hy
  obtain ⟨W0, hW0⟩ : ∃ W0, W0 = ((w.alloc (.cells #[.bool i.neg, .slice i.A i.k i.c] 48)).alloc (.cells #[.bool j.neg, .slice j.A j.k j.c] 48)) := ⟨_, rfl⟩
  obtain ⟨p0, p1, pb⟩ := lay2 hW0
  have HBa := Lib.hid p0
  have HBb := Lib.hid p1
  have Hbel := Lib.hid pb
  have Hi := Lib.hid (Rests.al2 (h.old) hW0)
  have Hj := Lib.hid (Rests.al2 (h'.old) hW0)
  clear p0 p1 pb
  subst hW0
  have ne01 : w.heap.size ≠ w.heap.size + 1 := by omega
  have ne10 : w.heap.size + 1 ≠ w.heap.size := by omega
  clear h h' hz hy
  go_enter Tryz.func142, Tryz.ntmps142
  go_wp2_with fail
  go_region_held3 (fun W => W.cell? ⟨w.heap.size, 0, none⟩ = some (.bool i.neg) ∧ W.cell? ⟨w.heap.size, 1, none⟩ = some (.slice i.A i.k i.c) ∧ W.cell? ⟨w.heap.size + 1, 0, none⟩ = some (.bool j.neg) ∧ W.cell? ⟨w.heap.size + 1, 1, none⟩ = some (.slice j.A j.k j.c)) (go_keep)
    (first
      | (go_at_call_of 150 (Value.agg #[.bool i.neg, .slice i.A i.k i.c]); go_must (refine (wsign_any _ i z n (by omega) (by first | exact Hi.out.now | exact Hi.out.drew.now)).mono ?_; rintro e w1 ⟨rfl, hb1⟩; replace HBa := Lib.hid (Blk.below (by exact HBa.out) hb1 (by exact HBa.out.lt)); obtain ⟨sw1HBa0, sw1HBa1⟩ := Blk.c2 HBa.out; replace HBb := Lib.hid (Blk.below (by exact HBb.out) hb1 (by exact HBb.out.lt)); obtain ⟨sw1HBb0, sw1HBb1⟩ := Blk.c2 HBb.out; replace Hi := Lib.hid (Rests.below (φ := IntD i z n) (by first | exact Hi.out | exact Hi.out.drew) hb1); replace Hj := Lib.hid (Rests.below (φ := IntD j y m) (by first | exact Hj.out | exact Hj.out.drew) hb1); replace Hbel := Lib.hid (Below.after (by first | exact Hbel.out | exact Below.drew Hbel.out) hb1); rw [Hsz.out]; clear hb1))
      | (go_at_call_of 150 (Value.agg #[.bool j.neg, .slice j.A j.k j.c]); go_must (refine (wsign_any _ j y m (by omega) (by first | exact Hj.out.now | exact Hj.out.drew.now)).mono ?_; rintro e w2 ⟨rfl, hb2⟩; replace HBa := Lib.hid (Blk.below (by exact HBa.out) hb2 (by exact HBa.out.lt)); obtain ⟨sw2HBa0, sw2HBa1⟩ := Blk.c2 HBa.out; replace HBb := Lib.hid (Blk.below (by exact HBb.out) hb2 (by exact HBb.out.lt)); obtain ⟨sw2HBb0, sw2HBb1⟩ := Blk.c2 HBb.out; replace Hi := Lib.hid (Rests.below (φ := IntD i z n) (by first | exact Hi.out | exact Hi.out.drew) hb2); replace Hj := Lib.hid (Rests.below (φ := IntD j y m) (by first | exact Hj.out | exact Hj.out.drew) hb2); replace Hbel := Lib.hid (Below.after (by first | exact Hbel.out | exact Below.drew Hbel.out) hb2); rw [Hsy.out]; clear hb2)))
  all_goals
    go_wp2_with fail
    refine (compare_z (0) (1) _).mono ?_
    rintro e w' ⟨rfl, rfl⟩
    go_wp2_with fail
    go_ret
    exact ⟨by rw [Hqq.out]; rfl, by first | exact Hbel.out | exact Below.drew Hbel.out⟩

set_option maxRecDepth 100000 in
set_option maxHeartbeats 1000000 in
theorem wcmp_pos_neg (w : World) (i j : IV) (z y : Int) (n m : Nat) (hn : n ≤ 900000000000) (hm : m ≤ 900000000000) (h : IntD i z n w) (h' : IntD j y m w) (hz : z.sign = 1) (hy : y.sign = -1) :
    Calls Tryz.prog 142 #[.agg #[.bool i.neg, .slice i.A i.k i.c], .agg #[.bool j.neg, .slice j.A j.k j.c]] w fun e w' => e = .returned (.int .i64 (cmpZ z y)) ∧ Below w.heap.size w w' := by
  have Hqq := Lib.hid (show cmpZ z y = cmpZ (1) (-1) from by
    have h1 := sgz_pos hz
    have h2 := sgz_neg hy
    unfold cmpZ 
    (repeat' split) <;> omega)
  have Hsz := Lib.hid hz
  have Hsy := Lib.hid hy
  obtain ⟨W0, hW0⟩ : ∃ W0, W0 = ((w.alloc (.cells #[.bool i.neg, .slice i.A i.k i.c] 48)).alloc (.cells #[.bool j.neg, .slice j.A j.k j.c] 48)) := ⟨_, rfl⟩
  obtain ⟨p0, p1, pb⟩ := lay2 hW0
  have HBa := Lib.hid p0
  have HBb := Lib.hid p1
  have Hbel := Lib.hid pb
  have Hi := Lib.hid (Rests.al2 (h.old) hW0)
  have Hj := Lib.hid (Rests.al2 (h'.old) hW0)
  clear p0 p1 pb
  subst hW0
  have ne01 : w.heap.size ≠ w.heap.size + 1 := by omega
  have ne10 : w.heap.size + 1 ≠ w.heap.size := by omega
  clear h h' hz hy
  go_enter Tryz.func142, Tryz.ntmps142
  go_wp2_with fail
  go_region_held3 (fun W => W.cell? ⟨w.heap.size, 0, none⟩ = some (.bool i.neg) ∧ W.cell? ⟨w.heap.size, 1, none⟩ = some (.slice i.A i.k i.c) ∧ W.cell? ⟨w.heap.size + 1, 0, none⟩ = some (.bool j.neg) ∧ W.cell? ⟨w.heap.size + 1, 1, none⟩ = some (.slice j.A j.k j.c)) (go_keep)
    (first
      | (go_at_call_of 150 (Value.agg #[.bool i.neg, .slice i.A i.k i.c]); go_must (refine (wsign_any _ i z n (by omega) (by first | exact Hi.out.now | exact Hi.out.drew.now)).mono ?_; rintro e w1 ⟨rfl, hb1⟩; replace HBa := Lib.hid (Blk.below (by exact HBa.out) hb1 (by exact HBa.out.lt)); obtain ⟨sw1HBa0, sw1HBa1⟩ := Blk.c2 HBa.out; replace HBb := Lib.hid (Blk.below (by exact HBb.out) hb1 (by exact HBb.out.lt)); obtain ⟨sw1HBb0, sw1HBb1⟩ := Blk.c2 HBb.out; replace Hi := Lib.hid (Rests.below (φ := IntD i z n) (by first | exact Hi.out | exact Hi.out.drew) hb1); replace Hj := Lib.hid (Rests.below (φ := IntD j y m) (by first | exact Hj.out | exact Hj.out.drew) hb1); replace Hbel := Lib.hid (Below.after (by first | exact Hbel.out | exact Below.drew Hbel.out) hb1); rw [Hsz.out]; clear hb1))
      | (go_at_call_of 150 (Value.agg #[.bool j.neg, .slice j.A j.k j.c]); go_must (refine (wsign_any _ j y m (by omega) (by first | exact Hj.out.now | exact Hj.out.drew.now)).mono ?_; rintro e w2 ⟨rfl, hb2⟩; replace HBa := Lib.hid (Blk.below (by exact HBa.out) hb2 (by exact HBa.out.lt)); obtain ⟨sw2HBa0, sw2HBa1⟩ := Blk.c2 HBa.out; replace HBb := Lib.hid (Blk.below (by exact HBb.out) hb2 (by exact HBb.out.lt)); obtain ⟨sw2HBb0, sw2HBb1⟩ := Blk.c2 HBb.out; replace Hi := Lib.hid (Rests.below (φ := IntD i z n) (by first | exact Hi.out | exact Hi.out.drew) hb2); replace Hj := Lib.hid (Rests.below (φ := IntD j y m) (by first | exact Hj.out | exact Hj.out.drew) hb2); replace Hbel := Lib.hid (Below.after (by first | exact Hbel.out | exact Below.drew Hbel.out) hb2); rw [Hsy.out]; clear hb2)))
  all_goals
    go_wp2_with fail
    refine (compare_z (1) (-1) _).mono ?_
    rintro e w' ⟨rfl, rfl⟩
    go_wp2_with fail
    go_ret
    exact ⟨by rw [Hqq.out]; rfl, by first | exact Hbel.out | exact Below.drew Hbel.out⟩

set_option maxRecDepth 100000 in
set_option maxHeartbeats 1000000 in
theorem wcmp_pos_zero (w : World) (i j : IV) (z y : Int) (n m : Nat) (hn : n ≤ 900000000000) (hm : m ≤ 900000000000) (h : IntD i z n w) (h' : IntD j y m w) (hz : z.sign = 1) (hy : y.sign = 0) :
    Calls Tryz.prog 142 #[.agg #[.bool i.neg, .slice i.A i.k i.c], .agg #[.bool j.neg, .slice j.A j.k j.c]] w fun e w' => e = .returned (.int .i64 (cmpZ z y)) ∧ Below w.heap.size w w' := by
  have Hqq := Lib.hid (show cmpZ z y = cmpZ (1) (0) from by
    have h1 := sgz_pos hz
    have h2 := sgz_zero hy
    unfold cmpZ 
    (repeat' split) <;> omega)
  have Hsz := Lib.hid hz
  have Hsy := Lib.hid hy
  obtain ⟨W0, hW0⟩ : ∃ W0, W0 = ((w.alloc (.cells #[.bool i.neg, .slice i.A i.k i.c] 48)).alloc (.cells #[.bool j.neg, .slice j.A j.k j.c] 48)) := ⟨_, rfl⟩
  obtain ⟨p0, p1, pb⟩ := lay2 hW0
  have HBa := Lib.hid p0
  have HBb := Lib.hid p1
  have Hbel := Lib.hid pb
  have Hi := Lib.hid (Rests.al2 (h.old) hW0)
  have Hj := Lib.hid (Rests.al2 (h'.old) hW0)
  clear p0 p1 pb
  subst hW0
  have ne01 : w.heap.size ≠ w.heap.size + 1 := by omega
  have ne10 : w.heap.size + 1 ≠ w.heap.size := by omega
  clear h h' hz hy
  go_enter Tryz.func142, Tryz.ntmps142
  go_wp2_with fail
  go_region_held3 (fun W => W.cell? ⟨w.heap.size, 0, none⟩ = some (.bool i.neg) ∧ W.cell? ⟨w.heap.size, 1, none⟩ = some (.slice i.A i.k i.c) ∧ W.cell? ⟨w.heap.size + 1, 0, none⟩ = some (.bool j.neg) ∧ W.cell? ⟨w.heap.size + 1, 1, none⟩ = some (.slice j.A j.k j.c)) (go_keep)
    (first
      | (go_at_call_of 150 (Value.agg #[.bool i.neg, .slice i.A i.k i.c]); go_must (refine (wsign_any _ i z n (by omega) (by first | exact Hi.out.now | exact Hi.out.drew.now)).mono ?_; rintro e w1 ⟨rfl, hb1⟩; replace HBa := Lib.hid (Blk.below (by exact HBa.out) hb1 (by exact HBa.out.lt)); obtain ⟨sw1HBa0, sw1HBa1⟩ := Blk.c2 HBa.out; replace HBb := Lib.hid (Blk.below (by exact HBb.out) hb1 (by exact HBb.out.lt)); obtain ⟨sw1HBb0, sw1HBb1⟩ := Blk.c2 HBb.out; replace Hi := Lib.hid (Rests.below (φ := IntD i z n) (by first | exact Hi.out | exact Hi.out.drew) hb1); replace Hj := Lib.hid (Rests.below (φ := IntD j y m) (by first | exact Hj.out | exact Hj.out.drew) hb1); replace Hbel := Lib.hid (Below.after (by first | exact Hbel.out | exact Below.drew Hbel.out) hb1); rw [Hsz.out]; clear hb1))
      | (go_at_call_of 150 (Value.agg #[.bool j.neg, .slice j.A j.k j.c]); go_must (refine (wsign_any _ j y m (by omega) (by first | exact Hj.out.now | exact Hj.out.drew.now)).mono ?_; rintro e w2 ⟨rfl, hb2⟩; replace HBa := Lib.hid (Blk.below (by exact HBa.out) hb2 (by exact HBa.out.lt)); obtain ⟨sw2HBa0, sw2HBa1⟩ := Blk.c2 HBa.out; replace HBb := Lib.hid (Blk.below (by exact HBb.out) hb2 (by exact HBb.out.lt)); obtain ⟨sw2HBb0, sw2HBb1⟩ := Blk.c2 HBb.out; replace Hi := Lib.hid (Rests.below (φ := IntD i z n) (by first | exact Hi.out | exact Hi.out.drew) hb2); replace Hj := Lib.hid (Rests.below (φ := IntD j y m) (by first | exact Hj.out | exact Hj.out.drew) hb2); replace Hbel := Lib.hid (Below.after (by first | exact Hbel.out | exact Below.drew Hbel.out) hb2); rw [Hsy.out]; clear hb2)))
  all_goals
    go_wp2_with fail
    refine (compare_z (1) (0) _).mono ?_
    rintro e w' ⟨rfl, rfl⟩
    go_wp2_with fail
    go_ret
    exact ⟨by rw [Hqq.out]; rfl, by first | exact Hbel.out | exact Below.drew Hbel.out⟩

set_option maxRecDepth 100000 in
set_option maxHeartbeats 1000000 in
theorem wcmp_pos_pos (w : World) (i j : IV) (z y : Int) (n m : Nat) (hn : n ≤ 900000000000) (hm : m ≤ 900000000000) (h : IntD i z n w) (h' : IntD j y m w) (hz : z.sign = 1) (hy : y.sign = 1) :
    Calls Tryz.prog 142 #[.agg #[.bool i.neg, .slice i.A i.k i.c], .agg #[.bool j.neg, .slice j.A j.k j.c]] w fun e w' => e = .returned (.int .i64 (cmpZ z y)) ∧ Below w.heap.size w w' := by
  have Hqq := Lib.hid (show cmpZ z y = cmpN z.natAbs y.natAbs from by
    have h1 := sgz_pos hz
    have h2 := sgz_pos hy
    unfold cmpZ cmpN
    (repeat' split) <;> omega)
  have Hsz := Lib.hid hz
  have Hsy := Lib.hid hy
  obtain ⟨W0, hW0⟩ : ∃ W0, W0 = ((w.alloc (.cells #[.bool i.neg, .slice i.A i.k i.c] 48)).alloc (.cells #[.bool j.neg, .slice j.A j.k j.c] 48)) := ⟨_, rfl⟩
  obtain ⟨p0, p1, pb⟩ := lay2 hW0
  have HBa := Lib.hid p0
  have HBb := Lib.hid p1
  have Hbel := Lib.hid pb
  have Hi := Lib.hid (Rests.al2 (h.old) hW0)
  have Hj := Lib.hid (Rests.al2 (h'.old) hW0)
  clear p0 p1 pb
  subst hW0
  have ne01 : w.heap.size ≠ w.heap.size + 1 := by omega
  have ne10 : w.heap.size + 1 ≠ w.heap.size := by omega
  clear h h' hz hy
  go_enter Tryz.func142, Tryz.ntmps142
  go_wp2_with fail
  go_region_held3 (fun W => W.cell? ⟨w.heap.size, 0, none⟩ = some (.bool i.neg) ∧ W.cell? ⟨w.heap.size, 1, none⟩ = some (.slice i.A i.k i.c) ∧ W.cell? ⟨w.heap.size + 1, 0, none⟩ = some (.bool j.neg) ∧ W.cell? ⟨w.heap.size + 1, 1, none⟩ = some (.slice j.A j.k j.c)) (go_keep)
    (first
      | (go_at_call_of 150 (Value.agg #[.bool i.neg, .slice i.A i.k i.c]); go_must (refine (wsign_any _ i z n (by omega) (by first | exact Hi.out.now | exact Hi.out.drew.now)).mono ?_; rintro e w1 ⟨rfl, hb1⟩; replace HBa := Lib.hid (Blk.below (by exact HBa.out) hb1 (by exact HBa.out.lt)); obtain ⟨sw1HBa0, sw1HBa1⟩ := Blk.c2 HBa.out; replace HBb := Lib.hid (Blk.below (by exact HBb.out) hb1 (by exact HBb.out.lt)); obtain ⟨sw1HBb0, sw1HBb1⟩ := Blk.c2 HBb.out; replace Hi := Lib.hid (Rests.below (φ := IntD i z n) (by first | exact Hi.out | exact Hi.out.drew) hb1); replace Hj := Lib.hid (Rests.below (φ := IntD j y m) (by first | exact Hj.out | exact Hj.out.drew) hb1); replace Hbel := Lib.hid (Below.after (by first | exact Hbel.out | exact Below.drew Hbel.out) hb1); rw [Hsz.out]; clear hb1))
      | (go_at_call_of 150 (Value.agg #[.bool j.neg, .slice j.A j.k j.c]); go_must (refine (wsign_any _ j y m (by omega) (by first | exact Hj.out.now | exact Hj.out.drew.now)).mono ?_; rintro e w2 ⟨rfl, hb2⟩; replace HBa := Lib.hid (Blk.below (by exact HBa.out) hb2 (by exact HBa.out.lt)); obtain ⟨sw2HBa0, sw2HBa1⟩ := Blk.c2 HBa.out; replace HBb := Lib.hid (Blk.below (by exact HBb.out) hb2 (by exact HBb.out.lt)); obtain ⟨sw2HBb0, sw2HBb1⟩ := Blk.c2 HBb.out; replace Hi := Lib.hid (Rests.below (φ := IntD i z n) (by first | exact Hi.out | exact Hi.out.drew) hb2); replace Hj := Lib.hid (Rests.below (φ := IntD j y m) (by first | exact Hj.out | exact Hj.out.drew) hb2); replace Hbel := Lib.hid (Below.after (by first | exact Hbel.out | exact Below.drew Hbel.out) hb2); rw [Hsy.out]; clear hb2)))
  all_goals
    go_wp2_with fail
    refine (cmp_i (by first | exact Hi.out.now | exact Hi.out.drew.now) (by first | exact Hj.out.now | exact Hj.out.drew.now) hn hm).mono ?_
    rintro e w' ⟨rfl, q, rfl⟩
    go_wp2_with fail
    go_ret
    exact ⟨by rw [Hqq.out]; rfl, by first | exact Below.drewN Hbel.out q | exact Below.drewN (Below.drew Hbel.out) q⟩

theorem wcmp_any (w : World) (i j : IV) (z y : Int) (n m : Nat) (hn : n ≤ 900000000000) (hm : m ≤ 900000000000) (h : IntD i z n w) (h' : IntD j y m w) :
    Calls Tryz.prog 142 #[.agg #[.bool i.neg, .slice i.A i.k i.c], .agg #[.bool j.neg, .slice j.A j.k j.c]] w fun e w' => e = .returned (.int .i64 (cmpZ z y)) ∧ Below w.heap.size w w' := by
  rcases sgn3 z with hz | hz | hz <;> rcases sgn3 y with hy | hy | hy
  · exact wcmp_neg_neg w i j z y n m hn hm h h' hz hy
  · exact wcmp_neg_zero w i j z y n m hn hm h h' hz hy
  · exact wcmp_neg_pos w i j z y n m hn hm h h' hz hy
  · exact wcmp_zero_neg w i j z y n m hn hm h h' hz hy
  · exact wcmp_zero_zero w i j z y n m hn hm h h' hz hy
  · exact wcmp_zero_pos w i j z y n m hn hm h h' hz hy
  · exact wcmp_pos_neg w i j z y n m hn hm h h' hz hy
  · exact wcmp_pos_zero w i j z y n m hn hm h h' hz hy
  · exact wcmp_pos_pos w i j z y n m hn hm h h' hz hy
end Go.Proofs.YtgghdedabpohbaaGreatDoor
namespace Go.Proofs.YtgghdedabpohbaaGreatDoor
open Go.RowKit

theorem cmpZ_sign (x y : Int) : cmpZ x y = (x - y).sign := by
  unfold cmpZ
  rcases Int.lt_trichotomy x y with h | h | h
  · rw [if_pos h, Int.sign_eq_neg_one_of_neg (by omega)]
  · subst h; simp
  · rw [if_neg (by omega), if_neg (by omega), Int.sign_eq_one_of_pos (by omega)]
def cmpQ (a b : Rat) : Int := if a < b then -1 else if a = b then 0 else 1
theorem cmpQ_num (a b : Rat) : cmpQ a b = cmpZ (a.num * b.den) (b.num * a.den) := by
  have ha : (a.den : Int) ≠ 0 := by have := a.den_pos; omega
  have hb : (b.den : Int) ≠ 0 := by have := b.den_pos; omega
  have he : a = b ↔ a.num * b.den = b.num * a.den := by
    rw [← Rat.divInt_eq_divInt_iff ha hb, Rat.num_divInt_den, Rat.num_divInt_den]
  unfold cmpQ cmpZ
  simp only [Rat.lt_iff, he]
theorem key_id (N M A B p d p' d' : Int) (e : N * d = p * A) (e' : M * d' = p' * B) : (N * B - M * A) * (d * d') = (p * d' - p' * d) * (A * B) := by
  grind
theorem cmp_rat {a b : Rat} {p d p' d' : Int} (hd : 0 < d) (hd' : 0 < d') (h : a = Rat.divInt p d) (h' : b = Rat.divInt p' d') : cmpQ a b = cmpZ (p * d') (p' * d) := by
  have ha : 0 < (a.den : Int) := Int.natCast_pos.2 a.den_pos
  have hb : 0 < (b.den : Int) := Int.natCast_pos.2 b.den_pos
  have e : a.num * d = p * a.den := by
    rw [← Rat.divInt_eq_divInt_iff (by omega) (by omega), Rat.num_divInt_den, ← h]
  have e' : b.num * d' = p' * b.den := by
    rw [← Rat.divInt_eq_divInt_iff (by omega) (by omega), Rat.num_divInt_den, ← h']
  have k := congrArg Int.sign (key_id _ _ _ _ _ _ _ _ e e')
  simp only [Int.sign_mul, Int.sign_eq_one_of_pos hd, Int.sign_eq_one_of_pos hd', Int.sign_eq_one_of_pos ha, Int.sign_eq_one_of_pos hb, Int.mul_one] at k
  rw [cmpQ_num, cmpZ_sign, cmpZ_sign]
  exact k

set_option maxRecDepth 100000 in
set_option maxHeartbeats 4000000 in
theorem rcmp_any (w : World) (r s : RV) (a b : Rat) (n : Nat) (hn : n ≤ 400000000000) (h1n : 1 ≤ n) (h : RatD r a n w) (h' : RatD s b n w) :
    Calls Tryz.prog 44 #[.agg #[.bool r.num.neg, .slice r.num.A r.num.k r.num.c, .bool r.den.neg, .slice r.den.A r.den.k r.den.c], .agg #[.bool s.num.neg, .slice s.num.A s.num.k s.num.c, .bool s.den.neg, .slice s.den.A s.den.k s.den.c]] w fun e w' => e = .returned (.int .i64 (cmpQ a b)) ∧ Below w.heap.size w w' := by
  obtain ⟨x, d, hx, hd, hq⟩ := h.ex
  obtain ⟨x', d', hx', hd', hq'⟩ := h'.ex
  have Hqq := Lib.hid (cmp_rat (paD_pos r d) (paD_pos s d') (hq.trans (pa_eq r x d).symm) (hq'.trans (pa_eq s x' d').symm))
  obtain ⟨W0, hW0⟩ : ∃ W0, W0 = ((w.alloc (.cells #[.bool r.num.neg, .slice r.num.A r.num.k r.num.c, .bool r.den.neg, .slice r.den.A r.den.k r.den.c] 50)).alloc (.cells #[.bool s.num.neg, .slice s.num.A s.num.k s.num.c, .bool s.den.neg, .slice s.den.A s.den.k s.den.c] 50)) := ⟨_, rfl⟩
  obtain ⟨p0, p1, pb⟩ := lay2 hW0
  have HBa := Lib.hid p0
  have HBb := Lib.hid p1
  have Hbel := Lib.hid pb
  have Hx := Lib.hid (Rests.al2 (hx.old) hW0)
  have Hd := Lib.hid (Rests.al2 (hd.old) hW0)
  have Hx' := Lib.hid (Rests.al2 (hx'.old) hW0)
  have Hd' := Lib.hid (Rests.al2 (hd'.old) hW0)
  clear p0 p1 pb
  subst hW0
  have ne01 : w.heap.size ≠ w.heap.size + 1 := by omega
  have ne10 : w.heap.size + 1 ≠ w.heap.size := by omega
  clear h h' hx hd hq hx' hd' hq'
  go_enter Tryz.func44, Tryz.ntmps44
  go_wp2_with fail
  refine (parts_any _ r x d n (· < w.heap.size) (fun b hb => Nat.lt_of_lt_of_le hb Hbel.out.size) (by omega) h1n Hx.out Hd.out).mono ?_
  rintro e w1 ⟨p1, e1, rfl, hp, he, hbw1⟩
  replace HBa := Lib.hid (Blk.below (by exact HBa.out) hbw1 (by exact HBa.out.lt))
  obtain ⟨sw1HBa0, sw1HBa1, sw1HBa2, sw1HBa3⟩ := Blk.c4 HBa.out
  replace HBb := Lib.hid (Blk.below (by exact HBb.out) hbw1 (by exact HBb.out.lt))
  obtain ⟨sw1HBb0, sw1HBb1, sw1HBb2, sw1HBb3⟩ := Blk.c4 HBb.out
  replace Hx := Lib.hid (Rests.below (φ := IntD r.num x n) (by first | exact Hx.out | exact Hx.out.drew) hbw1)
  replace Hd := Lib.hid (Rests.below (φ := IntD r.den d n) (by first | exact Hd.out | exact Hd.out.drew) hbw1)
  replace Hx' := Lib.hid (Rests.below (φ := IntD s.num x' n) (by first | exact Hx'.out | exact Hx'.out.drew) hbw1)
  replace Hd' := Lib.hid (Rests.below (φ := IntD s.den d' n) (by first | exact Hd'.out | exact Hd'.out.drew) hbw1)
  replace Hbel := Lib.hid (Below.after (by first | exact Hbel.out | exact Below.drew Hbel.out) hbw1)
  have Hp1 := Lib.hid hp
  have He1 := Lib.hid he
  have HLp1 := Lib.hid hp.now.lt
  have HLe1 := Lib.hid he.now.lt
  clear hp he
  clear hbw1
  replace HBa := Lib.hid ((HBa.out.alloc (.cells #[.bool p1.neg, .slice p1.A p1.k p1.c] 48)).alloc (.cells #[.bool e1.neg, .slice e1.A e1.k e1.c] 48))
  replace HBb := Lib.hid ((HBb.out.alloc (.cells #[.bool p1.neg, .slice p1.A p1.k p1.c] 48)).alloc (.cells #[.bool e1.neg, .slice e1.A e1.k e1.c] 48))
  replace Hx := Lib.hid ((Hx.out.alloc (.cells #[.bool p1.neg, .slice p1.A p1.k p1.c] 48)).alloc (.cells #[.bool e1.neg, .slice e1.A e1.k e1.c] 48))
  replace Hd := Lib.hid ((Hd.out.alloc (.cells #[.bool p1.neg, .slice p1.A p1.k p1.c] 48)).alloc (.cells #[.bool e1.neg, .slice e1.A e1.k e1.c] 48))
  replace Hx' := Lib.hid ((Hx'.out.alloc (.cells #[.bool p1.neg, .slice p1.A p1.k p1.c] 48)).alloc (.cells #[.bool e1.neg, .slice e1.A e1.k e1.c] 48))
  replace Hd' := Lib.hid ((Hd'.out.alloc (.cells #[.bool p1.neg, .slice p1.A p1.k p1.c] 48)).alloc (.cells #[.bool e1.neg, .slice e1.A e1.k e1.c] 48))
  replace Hp1 := Lib.hid ((Hp1.out.alloc (.cells #[.bool p1.neg, .slice p1.A p1.k p1.c] 48)).alloc (.cells #[.bool e1.neg, .slice e1.A e1.k e1.c] 48))
  replace He1 := Lib.hid ((He1.out.alloc (.cells #[.bool p1.neg, .slice p1.A p1.k p1.c] 48)).alloc (.cells #[.bool e1.neg, .slice e1.A e1.k e1.c] 48))
  replace Hbel := Lib.hid ((Hbel.out.alloc Hbel.out.size (.cells #[.bool p1.neg, .slice p1.A p1.k p1.c] 48)).alloc (Nat.le_trans Hbel.out.size (by simp)) (.cells #[.bool e1.neg, .slice e1.A e1.k e1.c] 48))
  have HP1 := Lib.hid ((Blk.new w1 48 #[.bool p1.neg, .slice p1.A p1.k p1.c]).alloc (.cells #[.bool e1.neg, .slice e1.A e1.k e1.c] 48))
  have HE1 := Lib.hid (by have := Blk.new (w1.alloc (.cells #[.bool p1.neg, .slice p1.A p1.k p1.c] 48)) 48 #[.bool e1.neg, .slice e1.A e1.k e1.c]; simpa using this : Blk ((w1.alloc (.cells #[.bool p1.neg, .slice p1.A p1.k p1.c] 48)).alloc (.cells #[.bool e1.neg, .slice e1.A e1.k e1.c] 48)) (w1.heap.size + 1) 48 #[.bool e1.neg, .slice e1.A e1.k e1.c])
  have y1HBa0 : World.cell? _ ⟨w.heap.size, 0, none⟩ = some (.bool r.num.neg) := HBa.out.cell 0
  have y1HBa1 : World.cell? _ ⟨w.heap.size, 1, none⟩ = some (.slice r.num.A r.num.k r.num.c) := HBa.out.cell 1
  have y1HBa2 : World.cell? _ ⟨w.heap.size, 2, none⟩ = some (.bool r.den.neg) := HBa.out.cell 2
  have y1HBa3 : World.cell? _ ⟨w.heap.size, 3, none⟩ = some (.slice r.den.A r.den.k r.den.c) := HBa.out.cell 3
  have y1HBb0 : World.cell? _ ⟨w.heap.size + 1, 0, none⟩ = some (.bool s.num.neg) := HBb.out.cell 0
  have y1HBb1 : World.cell? _ ⟨w.heap.size + 1, 1, none⟩ = some (.slice s.num.A s.num.k s.num.c) := HBb.out.cell 1
  have y1HBb2 : World.cell? _ ⟨w.heap.size + 1, 2, none⟩ = some (.bool s.den.neg) := HBb.out.cell 2
  have y1HBb3 : World.cell? _ ⟨w.heap.size + 1, 3, none⟩ = some (.slice s.den.A s.den.k s.den.c) := HBb.out.cell 3
  have y1HP10 : World.cell? _ ⟨w1.heap.size, 0, none⟩ = some (.bool p1.neg) := HP1.out.cell 0
  have y1HP11 : World.cell? _ ⟨w1.heap.size, 1, none⟩ = some (.slice p1.A p1.k p1.c) := HP1.out.cell 1
  have y1HE10 : World.cell? _ ⟨w1.heap.size + 1, 0, none⟩ = some (.bool e1.neg) := HE1.out.cell 0
  have y1HE11 : World.cell? _ ⟨w1.heap.size + 1, 1, none⟩ = some (.slice e1.A e1.k e1.c) := HE1.out.cell 1
  go_wp2_with fail
  refine (parts_any _ s x' d' n (· < w.heap.size) (fun b hb => Nat.lt_of_lt_of_le hb Hbel.out.size) (by omega) h1n Hx'.out Hd'.out).mono ?_
  rintro e w2 ⟨p2, e2, rfl, hp, he, hbw2⟩
  replace HBa := Lib.hid (Blk.below (by exact HBa.out) hbw2 (by exact HBa.out.lt))
  obtain ⟨sw2HBa0, sw2HBa1, sw2HBa2, sw2HBa3⟩ := Blk.c4 HBa.out
  replace HBb := Lib.hid (Blk.below (by exact HBb.out) hbw2 (by exact HBb.out.lt))
  obtain ⟨sw2HBb0, sw2HBb1, sw2HBb2, sw2HBb3⟩ := Blk.c4 HBb.out
  replace HP1 := Lib.hid (Blk.below (by exact HP1.out) hbw2 (by exact HP1.out.lt))
  obtain ⟨sw2HP10, sw2HP11⟩ := Blk.c2 HP1.out
  replace HE1 := Lib.hid (Blk.below (by exact HE1.out) hbw2 (by exact HE1.out.lt))
  obtain ⟨sw2HE10, sw2HE11⟩ := Blk.c2 HE1.out
  replace Hx := Lib.hid (Rests.below (φ := IntD r.num x n) (by first | exact Hx.out | exact Hx.out.drew) hbw2)
  replace Hd := Lib.hid (Rests.below (φ := IntD r.den d n) (by first | exact Hd.out | exact Hd.out.drew) hbw2)
  replace Hx' := Lib.hid (Rests.below (φ := IntD s.num x' n) (by first | exact Hx'.out | exact Hx'.out.drew) hbw2)
  replace Hd' := Lib.hid (Rests.below (φ := IntD s.den d' n) (by first | exact Hd'.out | exact Hd'.out.drew) hbw2)
  replace Hp1 := Lib.hid (Rests.below (φ := IntD p1 (paN r x d) n) (by first | exact Hp1.out | exact Hp1.out.drew) hbw2)
  replace He1 := Lib.hid (Rests.below (φ := IntD e1 (paD r d) n) (by first | exact He1.out | exact He1.out.drew) hbw2)
  replace Hbel := Lib.hid (Below.after (by first | exact Hbel.out | exact Below.drew Hbel.out) hbw2)
  have Hp2 := Lib.hid hp
  have He2 := Lib.hid he
  have HLp2 := Lib.hid hp.now.lt
  have HLe2 := Lib.hid he.now.lt
  clear hp he
  clear hbw2
  replace HBa := Lib.hid ((HBa.out.alloc (.cells #[.bool p2.neg, .slice p2.A p2.k p2.c] 48)).alloc (.cells #[.bool e2.neg, .slice e2.A e2.k e2.c] 48))
  replace HBb := Lib.hid ((HBb.out.alloc (.cells #[.bool p2.neg, .slice p2.A p2.k p2.c] 48)).alloc (.cells #[.bool e2.neg, .slice e2.A e2.k e2.c] 48))
  replace HP1 := Lib.hid ((HP1.out.alloc (.cells #[.bool p2.neg, .slice p2.A p2.k p2.c] 48)).alloc (.cells #[.bool e2.neg, .slice e2.A e2.k e2.c] 48))
  replace HE1 := Lib.hid ((HE1.out.alloc (.cells #[.bool p2.neg, .slice p2.A p2.k p2.c] 48)).alloc (.cells #[.bool e2.neg, .slice e2.A e2.k e2.c] 48))
  replace Hx := Lib.hid ((Hx.out.alloc (.cells #[.bool p2.neg, .slice p2.A p2.k p2.c] 48)).alloc (.cells #[.bool e2.neg, .slice e2.A e2.k e2.c] 48))
  replace Hd := Lib.hid ((Hd.out.alloc (.cells #[.bool p2.neg, .slice p2.A p2.k p2.c] 48)).alloc (.cells #[.bool e2.neg, .slice e2.A e2.k e2.c] 48))
  replace Hx' := Lib.hid ((Hx'.out.alloc (.cells #[.bool p2.neg, .slice p2.A p2.k p2.c] 48)).alloc (.cells #[.bool e2.neg, .slice e2.A e2.k e2.c] 48))
  replace Hd' := Lib.hid ((Hd'.out.alloc (.cells #[.bool p2.neg, .slice p2.A p2.k p2.c] 48)).alloc (.cells #[.bool e2.neg, .slice e2.A e2.k e2.c] 48))
  replace Hp1 := Lib.hid ((Hp1.out.alloc (.cells #[.bool p2.neg, .slice p2.A p2.k p2.c] 48)).alloc (.cells #[.bool e2.neg, .slice e2.A e2.k e2.c] 48))
  replace He1 := Lib.hid ((He1.out.alloc (.cells #[.bool p2.neg, .slice p2.A p2.k p2.c] 48)).alloc (.cells #[.bool e2.neg, .slice e2.A e2.k e2.c] 48))
  replace Hp2 := Lib.hid ((Hp2.out.alloc (.cells #[.bool p2.neg, .slice p2.A p2.k p2.c] 48)).alloc (.cells #[.bool e2.neg, .slice e2.A e2.k e2.c] 48))
  replace He2 := Lib.hid ((He2.out.alloc (.cells #[.bool p2.neg, .slice p2.A p2.k p2.c] 48)).alloc (.cells #[.bool e2.neg, .slice e2.A e2.k e2.c] 48))
  replace Hbel := Lib.hid ((Hbel.out.alloc Hbel.out.size (.cells #[.bool p2.neg, .slice p2.A p2.k p2.c] 48)).alloc (Nat.le_trans Hbel.out.size (by simp)) (.cells #[.bool e2.neg, .slice e2.A e2.k e2.c] 48))
  have HP2 := Lib.hid ((Blk.new w2 48 #[.bool p2.neg, .slice p2.A p2.k p2.c]).alloc (.cells #[.bool e2.neg, .slice e2.A e2.k e2.c] 48))
  have HE2 := Lib.hid (by have := Blk.new (w2.alloc (.cells #[.bool p2.neg, .slice p2.A p2.k p2.c] 48)) 48 #[.bool e2.neg, .slice e2.A e2.k e2.c]; simpa using this : Blk ((w2.alloc (.cells #[.bool p2.neg, .slice p2.A p2.k p2.c] 48)).alloc (.cells #[.bool e2.neg, .slice e2.A e2.k e2.c] 48)) (w2.heap.size + 1) 48 #[.bool e2.neg, .slice e2.A e2.k e2.c])
  have y2HBa0 : World.cell? _ ⟨w.heap.size, 0, none⟩ = some (.bool r.num.neg) := HBa.out.cell 0
  have y2HBa1 : World.cell? _ ⟨w.heap.size, 1, none⟩ = some (.slice r.num.A r.num.k r.num.c) := HBa.out.cell 1
  have y2HBa2 : World.cell? _ ⟨w.heap.size, 2, none⟩ = some (.bool r.den.neg) := HBa.out.cell 2
  have y2HBa3 : World.cell? _ ⟨w.heap.size, 3, none⟩ = some (.slice r.den.A r.den.k r.den.c) := HBa.out.cell 3
  have y2HBb0 : World.cell? _ ⟨w.heap.size + 1, 0, none⟩ = some (.bool s.num.neg) := HBb.out.cell 0
  have y2HBb1 : World.cell? _ ⟨w.heap.size + 1, 1, none⟩ = some (.slice s.num.A s.num.k s.num.c) := HBb.out.cell 1
  have y2HBb2 : World.cell? _ ⟨w.heap.size + 1, 2, none⟩ = some (.bool s.den.neg) := HBb.out.cell 2
  have y2HBb3 : World.cell? _ ⟨w.heap.size + 1, 3, none⟩ = some (.slice s.den.A s.den.k s.den.c) := HBb.out.cell 3
  have y2HP10 : World.cell? _ ⟨w1.heap.size, 0, none⟩ = some (.bool p1.neg) := HP1.out.cell 0
  have y2HP11 : World.cell? _ ⟨w1.heap.size, 1, none⟩ = some (.slice p1.A p1.k p1.c) := HP1.out.cell 1
  have y2HE10 : World.cell? _ ⟨w1.heap.size + 1, 0, none⟩ = some (.bool e1.neg) := HE1.out.cell 0
  have y2HE11 : World.cell? _ ⟨w1.heap.size + 1, 1, none⟩ = some (.slice e1.A e1.k e1.c) := HE1.out.cell 1
  have y2HP20 : World.cell? _ ⟨w2.heap.size, 0, none⟩ = some (.bool p2.neg) := HP2.out.cell 0
  have y2HP21 : World.cell? _ ⟨w2.heap.size, 1, none⟩ = some (.slice p2.A p2.k p2.c) := HP2.out.cell 1
  have y2HE20 : World.cell? _ ⟨w2.heap.size + 1, 0, none⟩ = some (.bool e2.neg) := HE2.out.cell 0
  have y2HE21 : World.cell? _ ⟨w2.heap.size + 1, 1, none⟩ = some (.slice e2.A e2.k e2.c) := HE2.out.cell 1
  go_wp2_with fail
  go_region_held3 (fun W => W.cell? ⟨w1.heap.size, 0, none⟩ = some (.bool p1.neg) ∧ W.cell? ⟨w1.heap.size, 1, none⟩ = some (.slice p1.A p1.k p1.c) ∧ W.cell? ⟨w1.heap.size + 1, 0, none⟩ = some (.bool e1.neg) ∧ W.cell? ⟨w1.heap.size + 1, 1, none⟩ = some (.slice e1.A e1.k e1.c) ∧ W.cell? ⟨w2.heap.size, 0, none⟩ = some (.bool p2.neg) ∧ W.cell? ⟨w2.heap.size, 1, none⟩ = some (.slice p2.A p2.k p2.c) ∧ W.cell? ⟨w2.heap.size + 1, 0, none⟩ = some (.bool e2.neg) ∧ W.cell? ⟨w2.heap.size + 1, 1, none⟩ = some (.slice e2.A e2.k e2.c)) (go_keep)
    (first
      | (go_at_call_of 143 (Value.agg #[.bool p1.neg, .slice p1.A p1.k p1.c]); go_must (refine (wmul_any _ p1 e2 (paN r x d) (paD s d') n n (by omega) (by omega) (by first | exact Hp1.out.now | exact Hp1.out.drew.now) (by first | exact He2.out.now | exact He2.out.drew.now)).mono ?_; rintro e w3 ⟨k1, rfl, hk1, hbw3⟩; replace HP1 := Lib.hid (Blk.below (by exact HP1.out) hbw3 (by exact HP1.out.lt)); obtain ⟨sw3HP10, sw3HP11⟩ := Blk.c2 HP1.out; replace HE1 := Lib.hid (Blk.below (by exact HE1.out) hbw3 (by exact HE1.out.lt)); obtain ⟨sw3HE10, sw3HE11⟩ := Blk.c2 HE1.out; replace HP2 := Lib.hid (Blk.below (by exact HP2.out) hbw3 (by exact HP2.out.lt)); obtain ⟨sw3HP20, sw3HP21⟩ := Blk.c2 HP2.out; replace HE2 := Lib.hid (Blk.below (by exact HE2.out) hbw3 (by exact HE2.out.lt)); obtain ⟨sw3HE20, sw3HE21⟩ := Blk.c2 HE2.out; replace Hp1 := Lib.hid (Rests.below (φ := IntD p1 (paN r x d) n) (by first | exact Hp1.out | exact Hp1.out.drew) hbw3); replace He1 := Lib.hid (Rests.below (φ := IntD e1 (paD r d) n) (by first | exact He1.out | exact He1.out.drew) hbw3); replace Hp2 := Lib.hid (Rests.below (φ := IntD p2 (paN s x' d') n) (by first | exact Hp2.out | exact Hp2.out.drew) hbw3); replace He2 := Lib.hid (Rests.below (φ := IntD e2 (paD s d') n) (by first | exact He2.out | exact He2.out.drew) hbw3); replace Hbel := Lib.hid (Below.after (by first | exact Hbel.out | exact Below.drew Hbel.out) hbw3); have Hk1 := Lib.hid hk1; clear hk1; (try replace Hk2 := Lib.hid (Rests.below (φ := IntN k2 (paN s x' d' * paD r d)) (by first | exact Hk2.out | exact Hk2.out.drew) hbw3)); clear hbw3))
      | (go_at_call_of 143 (Value.agg #[.bool p2.neg, .slice p2.A p2.k p2.c]); go_must (refine (wmul_any _ p2 e1 (paN s x' d') (paD r d) n n (by omega) (by omega) (by first | exact Hp2.out.now | exact Hp2.out.drew.now) (by first | exact He1.out.now | exact He1.out.drew.now)).mono ?_; rintro e w4 ⟨k2, rfl, hk2, hbw4⟩; replace HP1 := Lib.hid (Blk.below (by exact HP1.out) hbw4 (by exact HP1.out.lt)); obtain ⟨sw4HP10, sw4HP11⟩ := Blk.c2 HP1.out; replace HE1 := Lib.hid (Blk.below (by exact HE1.out) hbw4 (by exact HE1.out.lt)); obtain ⟨sw4HE10, sw4HE11⟩ := Blk.c2 HE1.out; replace HP2 := Lib.hid (Blk.below (by exact HP2.out) hbw4 (by exact HP2.out.lt)); obtain ⟨sw4HP20, sw4HP21⟩ := Blk.c2 HP2.out; replace HE2 := Lib.hid (Blk.below (by exact HE2.out) hbw4 (by exact HE2.out.lt)); obtain ⟨sw4HE20, sw4HE21⟩ := Blk.c2 HE2.out; replace Hp1 := Lib.hid (Rests.below (φ := IntD p1 (paN r x d) n) (by first | exact Hp1.out | exact Hp1.out.drew) hbw4); replace He1 := Lib.hid (Rests.below (φ := IntD e1 (paD r d) n) (by first | exact He1.out | exact He1.out.drew) hbw4); replace Hp2 := Lib.hid (Rests.below (φ := IntD p2 (paN s x' d') n) (by first | exact Hp2.out | exact Hp2.out.drew) hbw4); replace He2 := Lib.hid (Rests.below (φ := IntD e2 (paD s d') n) (by first | exact He2.out | exact He2.out.drew) hbw4); replace Hbel := Lib.hid (Below.after (by first | exact Hbel.out | exact Below.drew Hbel.out) hbw4); have Hk2 := Lib.hid hk2; clear hk2; (try replace Hk1 := Lib.hid (Rests.below (φ := IntN k1 (paN r x d * paD s d')) (by first | exact Hk1.out | exact Hk1.out.drew) hbw4)); clear hbw4))
      | (go_at_call 142; go_must (refine (wcmp_any _ k1 k2 (paN r x d * paD s d') (paN s x' d' * paD r d) (n + n) (n + n) (by omega) (by omega) (IntN.ofLt (by first | exact Hk1.out.now | exact Hk1.out.drew.now) (mul_lt HLp1.out HLe2.out)) (IntN.ofLt (by first | exact Hk2.out.now | exact Hk2.out.drew.now) (mul_lt HLp2.out HLe1.out))).mono ?_; rintro e w5 ⟨rfl, hb5⟩; replace HP1 := Lib.hid (Blk.below (by exact HP1.out) hb5 (by exact HP1.out.lt)); obtain ⟨sw5HP10, sw5HP11⟩ := Blk.c2 HP1.out; replace HE1 := Lib.hid (Blk.below (by exact HE1.out) hb5 (by exact HE1.out.lt)); obtain ⟨sw5HE10, sw5HE11⟩ := Blk.c2 HE1.out; replace HP2 := Lib.hid (Blk.below (by exact HP2.out) hb5 (by exact HP2.out.lt)); obtain ⟨sw5HP20, sw5HP21⟩ := Blk.c2 HP2.out; replace HE2 := Lib.hid (Blk.below (by exact HE2.out) hb5 (by exact HE2.out.lt)); obtain ⟨sw5HE20, sw5HE21⟩ := Blk.c2 HE2.out; replace Hbel := Lib.hid (Below.after (by first | exact Hbel.out | exact Below.drew Hbel.out) hb5); rw [← Hqq.out]; clear hb5)))
  all_goals
    go_wp2_with fail
    go_ret
    exact ⟨rfl, by first | exact Hbel.out | exact Below.drew Hbel.out⟩

theorem cmpQ_zero (a b : Rat) : (cmpQ a b == 0) = decide (a = b) := by
  unfold cmpQ
  by_cases h : a < b
  · rw [if_pos h, decide_eq_false (fun e => by rw [e, Rat.lt_iff] at h; omega)]; rfl
  · rw [if_neg h]
    by_cases h2 : a = b
    · simp [h2]
    · simp [h2]

set_option maxRecDepth 100000 in
set_option maxHeartbeats 1000000 in
theorem rsame_any (w : World) (r s : RV) (a b : Rat) (n : Nat) (hn : n ≤ 400000000000) (h1n : 1 ≤ n) (h : RatD r a n w) (h' : RatD s b n w) :
    Calls Tryz.prog 26 #[.agg #[.bool r.num.neg, .slice r.num.A r.num.k r.num.c, .bool r.den.neg, .slice r.den.A r.den.k r.den.c], .agg #[.bool s.num.neg, .slice s.num.A s.num.k s.num.c, .bool s.den.neg, .slice s.den.A s.den.k s.den.c]] w fun e w' => e = .returned (.bool (decide (a = b))) ∧ Below w.heap.size w w' := by
  have Hqq := Lib.hid (cmpQ_zero a b)
  obtain ⟨W0, hW0⟩ : ∃ W0, W0 = ((w.alloc (.cells #[.bool r.num.neg, .slice r.num.A r.num.k r.num.c, .bool r.den.neg, .slice r.den.A r.den.k r.den.c] 50)).alloc (.cells #[.bool s.num.neg, .slice s.num.A s.num.k s.num.c, .bool s.den.neg, .slice s.den.A s.den.k s.den.c] 50)) := ⟨_, rfl⟩
  obtain ⟨p0, p1, pb⟩ := lay2 hW0
  have HBa := Lib.hid p0
  have HBb := Lib.hid p1
  have Hbel := Lib.hid pb
  have Hx := Lib.hid (Rests.al2 (h.old) hW0)
  have Hx' := Lib.hid (Rests.al2 (h'.old) hW0)
  clear p0 p1 pb
  subst hW0
  have ne01 : w.heap.size ≠ w.heap.size + 1 := by omega
  have ne10 : w.heap.size + 1 ≠ w.heap.size := by omega
  clear h h'
  go_enter Tryz.func26, Tryz.ntmps26
  go_wp2_with fail
  refine (rcmp_any _ r s a b n hn h1n (by first | exact Hx.out.now | exact Hx.out.drew.now) (by first | exact Hx'.out.now | exact Hx'.out.drew.now)).mono ?_
  rintro e w5 ⟨rfl, hb5⟩
  replace Hbel := Lib.hid (Below.after (by first | exact Hbel.out | exact Below.drew Hbel.out) hb5)
  clear hb5
  generalize cmpQ a b = c at *
  go_wp2_with fail
  go_ret
  exact ⟨by rw [← Hqq.out]; rfl, Hbel.out⟩
end Go.Proofs.YtgghdedabpohbaaGreatDoor
