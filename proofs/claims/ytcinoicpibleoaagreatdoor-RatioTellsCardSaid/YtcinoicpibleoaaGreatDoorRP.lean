/-
  tripwirelow: SameInt, SameRat (under way). tripwirelow: SameRat.
-/
import Derived.Test.YtcinoicpibleoaaGreatDoorQC
import Derived.Test.YtcinoicpibleoaaGreatDoorLowB
namespace Go.Proofs.YtcinoicpibleoaaGreatDoor
open Go.RowKit

set_option maxRecDepth 100000 in
set_option maxHeartbeats 1000000 in
theorem sameInt_sign (w : World) (i j : IV) (hne : (i.neg == j.neg) = false) :
    Calls Tryz.prog 43 #[.agg #[.bool i.neg, .slice i.A i.k i.c], .agg #[.bool j.neg, .slice j.A j.k j.c]] w fun e w' => e = .returned (.bool false) ∧ Below w.heap.size w w' := by
  have HB := Lib.hid (show Below w.heap.size w ((w.alloc (.cells #[.bool i.neg, .slice i.A i.k i.c] 29)).alloc (.cells #[.bool j.neg, .slice j.A j.k j.c] 29)) from (Below.of_alloc _ _).alloc (by simp) _)
  go_enter Tryz.func43, Tryz.ntmps43
  go_wp2_with fail
  go_ret
  exact ⟨rfl, HB.out⟩

set_option maxRecDepth 100000 in
set_option maxHeartbeats 1000000 in
theorem sameInt_words (w : World) (neg : Bool) (A B : Option Addr) (c d : Nat) (l m : List Nat) (hl : l.length ≤ 17592186044416) (ha : Rd w .u64 A l) (hb : Rd w .u64 B m) :
    Calls Tryz.prog 43 #[.agg #[.bool neg, .slice A l.length c], .agg #[.bool neg, .slice B m.length d]] w fun e w' => e = .returned (.bool (decide (l = m))) ∧ Below w.heap.size w w' := by
  have HS := Lib.hid (sameWords_any ((w.alloc (.cells #[.bool neg, .slice A l.length c] 29)).alloc (.cells #[.bool neg, .slice B m.length d] 29)) A B c d l m hl ((ha.alloc _).alloc _) ((hb.alloc _).alloc _))
  have HB := Lib.hid (show Below w.heap.size w ((w.alloc (.cells #[.bool neg, .slice A l.length c] 29)).alloc (.cells #[.bool neg, .slice B m.length d] 29)) from (Below.of_alloc _ _).alloc (by simp) _)
  clear ha hb
  generalize decide (l = m) = bb at *
  generalize l.length = n at *
  generalize m.length = k at *
  go_enter Tryz.func43, Tryz.ntmps43
  go_wp2_with fail
  refine HS.out.mono ?_
  rintro e w1 ⟨rfl, q, rfl⟩
  go_wp2_with fail
  go_ret
  exact ⟨rfl, Below.drewN HB.out q⟩

theorem sameInt_any (w : World) (i j : IV) (z y : Int) (hz : IntN i z w) (hy : IntN j y w) (hl : (digs B64 z.natAbs).length ≤ 17592186044416) :
    Calls Tryz.prog 43 #[.agg #[.bool i.neg, .slice i.A i.k i.c], .agg #[.bool j.neg, .slice j.A j.k j.c]] w fun e w' => e = .returned (.bool (decide (z = y))) ∧ Below w.heap.size w w' := by
  by_cases hs : i.neg = j.neg
  · have h := sameInt_words w i.neg i.A j.A i.c j.c _ _ hl hz.rd hy.rd
    have e : decide (digs B64 z.natAbs = digs B64 y.natAbs) = decide (z = y) := by
      rw [hz.neg, hy.neg] at hs
      have hs' : z < 0 ↔ y < 0 := by simpa using hs
      by_cases hzy : z = y
      · simp [hzy]
      · rw [decide_eq_false hzy, decide_eq_false]
        intro hd
        have hv := congrArg (val B64) hd
        rw [val_digs (by decide), val_digs (by decide)] at hv
        omega
    rw [e, ← hz.k, ← hy.k] at h
    rw [← hs]
    exact h
  · have e : decide (z = y) = false := by
      rw [hz.neg, hy.neg] at hs
      exact decide_eq_false (fun h => hs (by rw [h]))
    rw [e]
    exact sameInt_sign w i j (by simpa using hs)
end Go.Proofs.YtcinoicpibleoaaGreatDoor
namespace Go.Proofs.YtcinoicpibleoaaGreatDoor
open Go.RowKit

set_option maxRecDepth 100000 in
set_option maxHeartbeats 1000000 in
theorem sameRat_ne (w : World) (r s : RV) (a b : Rat) (h : RatN r a w) (h' : RatN s b w) (hl : (digs B64 a.num.natAbs).length ≤ 17592186044416) (hl' : (digs B64 (dn a).natAbs).length ≤ 17592186044416) (hq : a.num ≠ b.num) :
    Calls Tryz.prog 15 #[.agg #[.bool r.num.neg, .slice r.num.A r.num.k r.num.c, .bool r.den.neg, .slice r.den.A r.den.k r.den.c], .agg #[.bool s.num.neg, .slice s.num.A s.num.k s.num.c, .bool s.den.neg, .slice s.den.A s.den.k s.den.c]] w fun e w' => e = .returned (.bool false) ∧ Below w.heap.size w w' := by
  have Hq := Lib.hid (show decide (a.num = b.num) = false from by simp [hq])
  have Hl := Lib.hid hl
  have Hl' := Lib.hid hl'
  obtain ⟨W0, hW0⟩ : ∃ W0, W0 = ((w.alloc (.cells #[.bool r.num.neg, .slice r.num.A r.num.k r.num.c, .bool r.den.neg, .slice r.den.A r.den.k r.den.c] 31)).alloc (.cells #[.bool s.num.neg, .slice s.num.A s.num.k s.num.c, .bool s.den.neg, .slice s.den.A s.den.k s.den.c] 31)) := ⟨_, rfl⟩
  obtain ⟨p0, p1, pb⟩ := lay2 hW0
  have HBa := Lib.hid p0
  have HBb := Lib.hid p1
  have Hbel := Lib.hid pb
  have Hx := Lib.hid (Rests.al2 (h.old) hW0)
  have Hx' := Lib.hid (Rests.al2 (h'.old) hW0)
  clear p0 p1 pb
  subst hW0
  have ne01 : w.heap.size ≠ w.heap.size + 1 := by omega
  have ne10 : w.heap.size + 1 ≠ w.heap.size := by omega
  clear h h' hl hl' hq
  go_enter Tryz.func15, Tryz.ntmps15
  go_wp2_with fail
  refine (sameInt_any _ r.num s.num a.num b.num (RatN.num (by first | exact Hx.out.now | exact Hx.out.drew.now)) (RatN.num (by first | exact Hx'.out.now | exact Hx'.out.drew.now)) Hl.out).mono ?_
  rintro e w1 ⟨rfl, hb1⟩
  replace HBa := Lib.hid (Blk.below (by exact HBa.out) hb1 (by exact HBa.out.lt))
  obtain ⟨sw1HBa0, sw1HBa1, sw1HBa2, sw1HBa3⟩ := Blk.c4 HBa.out
  replace HBb := Lib.hid (Blk.below (by exact HBb.out) hb1 (by exact HBb.out.lt))
  obtain ⟨sw1HBb0, sw1HBb1, sw1HBb2, sw1HBb3⟩ := Blk.c4 HBb.out
  replace Hx := Lib.hid (Rests.below (φ := RatN r a) (by first | exact Hx.out | exact Hx.out.drew) hb1)
  replace Hx' := Lib.hid (Rests.below (φ := RatN s b) (by first | exact Hx'.out | exact Hx'.out.drew) hb1)
  replace Hbel := Lib.hid (Below.after (by first | exact Hbel.out | exact Below.drew Hbel.out) hb1)
  rw [Hq.out]
  clear hb1
  go_wp2_with fail
  go_ret
  exact ⟨rfl, Hbel.out⟩

set_option maxRecDepth 100000 in
set_option maxHeartbeats 1000000 in
theorem sameRat_eq (w : World) (r s : RV) (a b : Rat) (h : RatN r a w) (h' : RatN s b w) (hl : (digs B64 a.num.natAbs).length ≤ 17592186044416) (hl' : (digs B64 (dn a).natAbs).length ≤ 17592186044416) (hq : a.num = b.num) :
    Calls Tryz.prog 15 #[.agg #[.bool r.num.neg, .slice r.num.A r.num.k r.num.c, .bool r.den.neg, .slice r.den.A r.den.k r.den.c], .agg #[.bool s.num.neg, .slice s.num.A s.num.k s.num.c, .bool s.den.neg, .slice s.den.A s.den.k s.den.c]] w fun e w' => e = .returned (.bool (decide (dn a = dn b))) ∧ Below w.heap.size w w' := by
  have Hq := Lib.hid (show decide (a.num = b.num) = true from by simp [hq])
  have Hl := Lib.hid hl
  have Hl' := Lib.hid hl'
  obtain ⟨W0, hW0⟩ : ∃ W0, W0 = ((w.alloc (.cells #[.bool r.num.neg, .slice r.num.A r.num.k r.num.c, .bool r.den.neg, .slice r.den.A r.den.k r.den.c] 31)).alloc (.cells #[.bool s.num.neg, .slice s.num.A s.num.k s.num.c, .bool s.den.neg, .slice s.den.A s.den.k s.den.c] 31)) := ⟨_, rfl⟩
  obtain ⟨p0, p1, pb⟩ := lay2 hW0
  have HBa := Lib.hid p0
  have HBb := Lib.hid p1
  have Hbel := Lib.hid pb
  have Hx := Lib.hid (Rests.al2 (h.old) hW0)
  have Hx' := Lib.hid (Rests.al2 (h'.old) hW0)
  clear p0 p1 pb
  subst hW0
  have ne01 : w.heap.size ≠ w.heap.size + 1 := by omega
  have ne10 : w.heap.size + 1 ≠ w.heap.size := by omega
  clear h h' hl hl' hq
  go_enter Tryz.func15, Tryz.ntmps15
  go_wp2_with fail
  refine (sameInt_any _ r.num s.num a.num b.num (RatN.num (by first | exact Hx.out.now | exact Hx.out.drew.now)) (RatN.num (by first | exact Hx'.out.now | exact Hx'.out.drew.now)) Hl.out).mono ?_
  rintro e w1 ⟨rfl, hb1⟩
  replace HBa := Lib.hid (Blk.below (by exact HBa.out) hb1 (by exact HBa.out.lt))
  obtain ⟨sw1HBa0, sw1HBa1, sw1HBa2, sw1HBa3⟩ := Blk.c4 HBa.out
  replace HBb := Lib.hid (Blk.below (by exact HBb.out) hb1 (by exact HBb.out.lt))
  obtain ⟨sw1HBb0, sw1HBb1, sw1HBb2, sw1HBb3⟩ := Blk.c4 HBb.out
  replace Hx := Lib.hid (Rests.below (φ := RatN r a) (by first | exact Hx.out | exact Hx.out.drew) hb1)
  replace Hx' := Lib.hid (Rests.below (φ := RatN s b) (by first | exact Hx'.out | exact Hx'.out.drew) hb1)
  replace Hbel := Lib.hid (Below.after (by first | exact Hbel.out | exact Below.drew Hbel.out) hb1)
  rw [Hq.out]
  clear hb1
  go_wp2_with fail
  refine (sameInt_any _ r.den s.den (dn a) (dn b) (RatN.den (by first | exact Hx.out.now | exact Hx.out.drew.now)) (RatN.den (by first | exact Hx'.out.now | exact Hx'.out.drew.now)) Hl'.out).mono ?_
  rintro e w2 ⟨rfl, hb2⟩
  replace Hbel := Lib.hid (Below.after (by first | exact Hbel.out | exact Below.drew Hbel.out) hb2)
  clear hb2
  go_wp2_with fail
  go_ret
  exact ⟨rfl, Hbel.out⟩
end Go.Proofs.YtcinoicpibleoaaGreatDoor
