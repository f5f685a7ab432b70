/-
  ratio: Abs, Sign. whole.Cmp. ratio: Cmp, Same.
-/
import Derived.Test.YtbdgeinfijamcaaGreatDoorRG
namespace Go.Proofs.YtbdgeinfijamcaaGreatDoor
open Go.RowKit

theorem num_sign {a : Rat} {p d : Int} (hd : 0 < d) (h : a = Rat.divInt p d) : a.num.sign = p.sign := by
  have hp : 0 < (a.den : Int) := Int.natCast_pos.2 a.den_pos
  have e : a.num * d = p * a.den := by
    rw [← Rat.divInt_eq_divInt_iff (by omega) (by omega), Rat.num_divInt_den, ← h]
  have e2 := congrArg Int.sign e
  rw [Int.sign_mul, Int.sign_mul, Int.sign_eq_one_of_pos hd, Int.sign_eq_one_of_pos hp] at e2
  omega
theorem sgn3 (x : Int) : x.sign = -1 ∨ x.sign = 0 ∨ x.sign = 1 := by
  rcases Int.lt_trichotomy x 0 with h | h | h
  · exact .inl (Int.sign_eq_neg_one_of_neg h)
  · exact .inr (.inl (by rw [h]; rfl))
  · exact .inr (.inr (Int.sign_eq_one_of_pos h))
theorem sgn_div (x d : Int) : (Rat.divInt x d).num.sign = x.sign * d.sign := by
  rcases Int.lt_trichotomy d 0 with h | h | h
  · have : Rat.divInt x d = Rat.divInt (-x) (-d) := by rw [Rat.divInt_eq_divInt_iff (by omega) (by omega)]; simp [Int.neg_mul, Int.mul_neg]
    rw [this, num_sign (by omega) rfl, Int.sign_neg, Int.sign_eq_neg_one_of_neg h]; omega
  · rw [h, Rat.divInt_zero]; simp
  · rw [num_sign h rfl, Int.sign_eq_one_of_pos h]; omega

set_option maxRecDepth 100000 in
set_option maxHeartbeats 1000000 in
theorem rsign_one (w : World) (r : RV) (a : Rat) (n : Nat) (hn : n ≤ 400000000000) (h : RatD r a n w) (hk : r.den.k = 0) :
    Calls Tryz.prog 43 #[.agg #[.bool r.num.neg, .slice r.num.A r.num.k r.num.c, .bool r.den.neg, .slice r.den.A r.den.k r.den.c]] w fun e w' => e = .returned (.int .i64 a.num.sign) ∧ Below w.heap.size w w' := by
  obtain ⟨x, d, hx, hd, hq⟩ := h.ex
  have Hqq := Lib.hid (show a.num.sign = x.sign from by rw [if_pos hk] at hq; rw [hq, sgn_div]; simp)
  obtain ⟨sx, hsx⟩ : ∃ v, v = x.sign := ⟨_, rfl⟩
  obtain ⟨sd, hsd⟩ : ∃ v, v = d.sign := ⟨_, rfl⟩
  have h3 := sgn3 x
  have h3' := sgn3 d
  have HSx := Lib.hid hsx
  have HSd := Lib.hid hsd
  rw [← hsx] at h3
  rw [← hsd] at h3'
  have hg1 : ¬ 0 < r.den.k := by omega
  obtain ⟨W0, hW0⟩ : ∃ W0, W0 = (w.alloc (.cells #[.bool r.num.neg, .slice r.num.A r.num.k r.num.c, .bool r.den.neg, .slice r.den.A r.den.k r.den.c] 36)) := ⟨_, rfl⟩
  obtain ⟨p0, pb⟩ := lay1 hW0
  have HBa := Lib.hid p0
  have Hbel := Lib.hid pb
  have Hx := Lib.hid (Rests.al1 (hx.old) hW0)
  have Hd := Lib.hid (Rests.al1 (hd.old) hW0)
  clear p0 pb
  subst hW0
  clear h hx hd hq hk hsx hsd
  clear h3 h3'
  go_enter Tryz.func43, Tryz.ntmps43
  go_wp2_with fail
  refine (wsign_any _ r.num x n (by omega) (by first | exact Hx.out.now | exact Hx.out.drew.now)).mono ?_
  rintro e w1 ⟨rfl, hb1⟩
  replace HBa := Lib.hid (Blk.below (by exact HBa.out) hb1 (by exact HBa.out.lt))
  obtain ⟨sw1HBa0, sw1HBa1, sw1HBa2, sw1HBa3⟩ := Blk.c4 HBa.out
  replace Hd := Lib.hid (Rests.below (φ := IntD r.den d n) (by first | exact Hd.out | exact Hd.out.drew) hb1)
  replace Hbel := Lib.hid (Below.after (by first | exact Hbel.out | exact Below.drew Hbel.out) hb1)
  clear hb1
  go_wp2_with fail
  go_ret
  exact ⟨by rw [Hqq.out]; rfl, Hbel.out⟩

set_option maxRecDepth 100000 in
set_option maxHeartbeats 1000000 in
theorem rsign_more (w : World) (r : RV) (a : Rat) (n : Nat) (hn : n ≤ 400000000000) (h : RatD r a n w) (hk : r.den.k ≠ 0) :
    Calls Tryz.prog 43 #[.agg #[.bool r.num.neg, .slice r.num.A r.num.k r.num.c, .bool r.den.neg, .slice r.den.A r.den.k r.den.c]] w fun e w' => e = .returned (.int .i64 a.num.sign) ∧ Below w.heap.size w w' := by
  obtain ⟨x, d, hx, hd, hq⟩ := h.ex
  have Hqq := Lib.hid (show a.num.sign = x.sign * d.sign from by rw [if_neg hk] at hq; rw [hq, sgn_div])
  obtain ⟨sx, hsx⟩ : ∃ v, v = x.sign := ⟨_, rfl⟩
  obtain ⟨sd, hsd⟩ : ∃ v, v = d.sign := ⟨_, rfl⟩
  have h3 := sgn3 x
  have h3' := sgn3 d
  have HSx := Lib.hid hsx
  have HSd := Lib.hid hsd
  rw [← hsx] at h3
  rw [← hsd] at h3'
  have hg1 : 0 < r.den.k := by omega
  obtain ⟨W0, hW0⟩ : ∃ W0, W0 = (w.alloc (.cells #[.bool r.num.neg, .slice r.num.A r.num.k r.num.c, .bool r.den.neg, .slice r.den.A r.den.k r.den.c] 36)) := ⟨_, rfl⟩
  obtain ⟨p0, pb⟩ := lay1 hW0
  have HBa := Lib.hid p0
  have Hbel := Lib.hid pb
  have Hx := Lib.hid (Rests.al1 (hx.old) hW0)
  have Hd := Lib.hid (Rests.al1 (hd.old) hW0)
  clear p0 pb
  subst hW0
  clear h hx hd hq hk hsx hsd
  rcases h3 with rfl | rfl | rfl <;> rcases h3' with rfl | rfl | rfl
  all_goals
    go_enter Tryz.func43, Tryz.ntmps43
    go_wp2_with fail
    refine (wsign_any _ r.num x n (by omega) (by first | exact Hx.out.now | exact Hx.out.drew.now)).mono ?_
    rintro e w1 ⟨rfl, hb1⟩
    replace HBa := Lib.hid (Blk.below (by exact HBa.out) hb1 (by exact HBa.out.lt))
    obtain ⟨sw1HBa0, sw1HBa1, sw1HBa2, sw1HBa3⟩ := Blk.c4 HBa.out
    replace Hd := Lib.hid (Rests.below (φ := IntD r.den d n) (by first | exact Hd.out | exact Hd.out.drew) hb1)
    replace Hbel := Lib.hid (Below.after (by first | exact Hbel.out | exact Below.drew Hbel.out) hb1)
    clear hb1
    rw [← HSx.out]
    go_wp2_with fail
    refine (wsign_any _ r.den d n (by omega) (by first | exact Hd.out.now | exact Hd.out.drew.now)).mono ?_
    rintro e w2 ⟨rfl, hb2⟩
    replace Hbel := Lib.hid (Below.after (by first | exact Hbel.out | exact Below.drew Hbel.out) hb2)
    clear hb2
    rw [← HSd.out]
    go_wp2_with fail
    go_ret
    exact ⟨by rw [Hqq.out, ← HSx.out, ← HSd.out]; rfl, Hbel.out⟩

theorem rsign_any (w : World) (r : RV) (a : Rat) (n : Nat) (hn : n ≤ 400000000000) (h : RatD r a n w) :
    Calls Tryz.prog 43 #[.agg #[.bool r.num.neg, .slice r.num.A r.num.k r.num.c, .bool r.den.neg, .slice r.den.A r.den.k r.den.c]] w fun e w' => e = .returned (.int .i64 a.num.sign) ∧ Below w.heap.size w w' := by
  by_cases hk : r.den.k = 0
  · exact rsign_one w r a n hn h hk
  · exact rsign_more w r a n hn h hk
end Go.Proofs.YtbdgeinfijamcaaGreatDoor
namespace Go.Proofs.YtbdgeinfijamcaaGreatDoor
open Go.RowKit

end Go.Proofs.YtbdgeinfijamcaaGreatDoor
namespace Go.Proofs.YtbdgeinfijamcaaGreatDoor
open Go.RowKit

end Go.Proofs.YtbdgeinfijamcaaGreatDoor
