/-
  tripwirelaw04: is, awake; tripwirelow.ShortRat, tripwirelaw04.short.
-/
import Derived.Test.YtcinoicpibleoaaGreatDoorQP
import Derived.Deep.DeepMust
namespace Go.Proofs.YtcinoicpibleoaaGreatDoor
open Go.RowKit

set_option maxRecDepth 100000 in
set_option maxHeartbeats 4000000 in
theorem is_any (w : World) (r : RV) (q : Rat) (want : ByteArray) (n : Nat) (hn : n ≤ 1000) (h1n : 1 ≤ n) (h : RatN r q w) (hs : Sz q n) (hT : Tz w) (ht : Tab w) (hw : (⟨(ratText q).toArray⟩ : ByteArray) = want) :
    Calls Tryz.prog 67 #[.agg #[.bool r.num.neg, .slice r.num.A r.num.k r.num.c, .bool r.den.neg, .slice r.den.A r.den.k r.den.c], .string want] w fun e w' => e = .returned (.bool true) ∧ Below w.heap.size w w' := by
  have Hs := Lib.hid hs
  have Htx := Lib.hid (fun (W : World) (h1 : RatN r q W) (h2 : Tz W) (h3 : Tab W) => (show Calls Tryz.prog 48 #[.agg #[.bool r.num.neg, .slice r.num.A r.num.k r.num.c, .bool r.den.neg, .slice r.den.A r.den.k r.den.c]] W fun e w' => e = .returned (.string want) ∧ Below W.heap.size W w' from by
    have h4 := rtext_any W r q n (by omega) h1n (h1.rat Hs.out) h2 h3
    rw [← hw]; exact h4))
  obtain ⟨W0, hW0⟩ : ∃ W0, W0 = (w.alloc (.cells #[.bool r.num.neg, .slice r.num.A r.num.k r.num.c, .bool r.den.neg, .slice r.den.A r.den.k r.den.c] 31)) := ⟨_, rfl⟩
  obtain ⟨p0, pb⟩ := lay1 hW0
  have HBa := Lib.hid p0
  have Hbel := Lib.hid pb
  have Hx := Lib.hid (Rests.al1 (h.old) hW0)
  have HT := Lib.hid (Rests.al1 (hT.old) hW0)
  have Ht := Lib.hid (Rests.al1 (ht.old) hW0)
  clear p0 pb
  subst hW0
  clear h hT ht hs hw
  go_enter Tryz.func67, Tryz.ntmps67
  go_wp2_with fail
  go_region_held3 (fun W => W.cell? ⟨w.heap.size, 0, none⟩ = some (.bool r.num.neg) ∧ W.cell? ⟨w.heap.size, 1, none⟩ = some (.slice r.num.A r.num.k r.num.c) ∧ W.cell? ⟨w.heap.size, 2, none⟩ = some (.bool r.den.neg) ∧ W.cell? ⟨w.heap.size, 3, none⟩ = some (.slice r.den.A r.den.k r.den.c)) (go_keep)
    (first
      | (go_at_call 48; go_must (refine (Htx.out _ (by first | exact Hx.out.now | exact Hx.out.drew.now) (by first | exact HT.out.now | exact HT.out.drew.now) (by first | exact Ht.out.now | exact Ht.out.drew.now)).mono ?_; rintro e w1 ⟨rfl, hb1⟩; replace HBa := Lib.hid (Blk.below (by exact HBa.out) hb1 (by exact HBa.out.lt)); obtain ⟨sw1HBa0, sw1HBa1, sw1HBa2, sw1HBa3⟩ := Blk.c4 HBa.out; replace Hx := Lib.hid (Rests.below (φ := RatN r q) (by first | exact Hx.out | exact Hx.out.drew) hb1); replace HT := Lib.hid (Rests.below (φ := Tz) (by first | exact HT.out | exact HT.out.drew) hb1); replace Ht := Lib.hid (Rests.below (φ := Tab) (by first | exact Ht.out | exact Ht.out.drew) hb1); replace Hbel := Lib.hid (Below.after (by first | exact Hbel.out | exact Below.drew Hbel.out) hb1); clear hb1))
      | (go_at_call 8; go_must (refine (rnorm_any _ r q n (by omega) h1n (RatN.rat (by first | exact Hx.out.now | exact Hx.out.drew.now) Hs.out) (by first | exact HT.out.now | exact HT.out.drew.now)).mono ?_; rintro e w2 ⟨rr, rfl, hrr, hb2⟩; replace HBa := Lib.hid (Blk.below (by exact HBa.out) hb2 (by exact HBa.out.lt)); obtain ⟨sw2HBa0, sw2HBa1, sw2HBa2, sw2HBa3⟩ := Blk.c4 HBa.out; replace Hx := Lib.hid (Rests.below (φ := RatN r q) (by first | exact Hx.out | exact Hx.out.drew) hb2); replace HT := Lib.hid (Rests.below (φ := Tz) (by first | exact HT.out | exact HT.out.drew) hb2); replace Ht := Lib.hid (Rests.below (φ := Tab) (by first | exact Ht.out | exact Ht.out.drew) hb2); replace Hbel := Lib.hid (Below.after (by first | exact Hbel.out | exact Below.drew Hbel.out) hb2); have Hrr := Lib.hid hrr; clear hrr; clear hb2))
      | (go_at_call 15; go_must (refine (sameRat_true _ r rr q q n (by omega) Hs.out (by first | exact Hx.out.now | exact Hx.out.drew.now) (by first | exact Hrr.out.now | exact Hrr.out.drew.now) rfl).mono ?_; rintro e w3 ⟨rfl, hb3⟩; replace HBa := Lib.hid (Blk.below (by exact HBa.out) hb3 (by exact HBa.out.lt)); obtain ⟨sw3HBa0, sw3HBa1, sw3HBa2, sw3HBa3⟩ := Blk.c4 HBa.out; replace Hbel := Lib.hid (Below.after (by first | exact Hbel.out | exact Below.drew Hbel.out) hb3); clear hb3)))
  all_goals
    go_wp2_with fail
    go_ret
    exact ⟨rfl, by first | exact Hbel.out | exact Below.drew Hbel.out⟩

set_option maxRecDepth 100000 in
set_option maxHeartbeats 1000000 in
theorem shortRat_one (w : World) (r : RV) (m : Nat) (h1 : ¬ r.num.k ≤ m) :
    Calls Tryz.prog 12 #[.agg #[.bool r.num.neg, .slice r.num.A r.num.k r.num.c, .bool r.den.neg, .slice r.den.A r.den.k r.den.c], .int .i64 (m : Int)] w fun e w' => e = .returned (.bool false) ∧ Below w.heap.size w w' := by
  have HB := Lib.hid (Below.of_alloc w (.cells #[.bool r.num.neg, .slice r.num.A r.num.k r.num.c, .bool r.den.neg, .slice r.den.A r.den.k r.den.c] 31))
  have e1 : decide (r.num.k ≤ m) = false := by simp; omega
  clear h1
  go_enter Tryz.func12, Tryz.ntmps12
  go_wp2_with fail
  go_ret
  exact ⟨rfl, HB.out⟩

set_option maxRecDepth 100000 in
set_option maxHeartbeats 1000000 in
theorem shortRat_two (w : World) (r : RV) (m : Nat) (h1 : r.num.k ≤ m) (h2 : ¬ r.den.k ≤ m) :
    Calls Tryz.prog 12 #[.agg #[.bool r.num.neg, .slice r.num.A r.num.k r.num.c, .bool r.den.neg, .slice r.den.A r.den.k r.den.c], .int .i64 (m : Int)] w fun e w' => e = .returned (.bool false) ∧ Below w.heap.size w w' := by
  have HB := Lib.hid (Below.of_alloc w (.cells #[.bool r.num.neg, .slice r.num.A r.num.k r.num.c, .bool r.den.neg, .slice r.den.A r.den.k r.den.c] 31))
  have e1 : decide (r.num.k ≤ m) = true := by simp; omega
  have e2 : decide (r.den.k ≤ m) = false := by simp; omega
  clear h2
  clear h1
  go_enter Tryz.func12, Tryz.ntmps12
  go_wp2_with fail
  go_ret
  exact ⟨rfl, HB.out⟩

set_option maxRecDepth 100000 in
set_option maxHeartbeats 1000000 in
theorem shortRat_yes (w : World) (r : RV) (m : Nat) (h1 : r.num.k ≤ m) (h2 : r.den.k ≤ m) :
    Calls Tryz.prog 12 #[.agg #[.bool r.num.neg, .slice r.num.A r.num.k r.num.c, .bool r.den.neg, .slice r.den.A r.den.k r.den.c], .int .i64 (m : Int)] w fun e w' => e = .returned (.bool true) ∧ Below w.heap.size w w' := by
  have HB := Lib.hid (Below.of_alloc w (.cells #[.bool r.num.neg, .slice r.num.A r.num.k r.num.c, .bool r.den.neg, .slice r.den.A r.den.k r.den.c] 31))
  have e1 : decide (r.num.k ≤ m) = true := by simp; omega
  have e2 : decide (r.den.k ≤ m) = true := by simp; omega
  clear h2
  clear h1
  go_enter Tryz.func12, Tryz.ntmps12
  go_wp2_with fail
  go_ret
  exact ⟨rfl, HB.out⟩

/-- is a fraction a short one? -/
def shortR (r : RV) (m : Nat) : Bool := decide (r.num.k ≤ m) && decide (r.den.k ≤ m)
theorem shortRat_any (w : World) (r : RV) (m : Nat) :
    Calls Tryz.prog 12 #[.agg #[.bool r.num.neg, .slice r.num.A r.num.k r.num.c, .bool r.den.neg, .slice r.den.A r.den.k r.den.c], .int .i64 (m : Int)] w fun e w' => e = .returned (.bool (shortR r m)) ∧ Below w.heap.size w w' := by
  unfold shortR
  by_cases h1 : r.num.k ≤ m
  · by_cases h2 : r.den.k ≤ m
    · rw [decide_eq_true h1, decide_eq_true h2]; exact shortRat_yes w r m h1 h2
    · rw [decide_eq_true h1, decide_eq_false h2]; exact shortRat_two w r m h1 h2
  · rw [decide_eq_false h1]; exact shortRat_one w r m h1

@[go_sem] theorem field_den (W : World) (a b c d : Value) : (Instr.field 31 (.agg #[a, b, c, d]) 1).run Tryz.prog W = .ok (.agg #[c, d]) W := by kernel_rfl
@[go_sem] theorem field_abs (W : World) (c d : Value) : (Instr.field 29 (.agg #[c, d]) 1).run Tryz.prog W = .ok d W := by kernel_rfl
theorem ratText_lit {q : Rat} (z : Int) (d : Nat) (hn : q.num = z) (hd : q.den = d) : ratText q = intText (decide (z < 0)) z.natAbs ++ (if d = 1 then [] else 47 :: intText false d) := by
  unfold ratText; rw [hn, hd]
theorem parse_lit : parseR [45, 54, 47, 52] = (0, Rat.divInt (-6) 4) := by decide +kernel
theorem tx_a : (⟨(ratText (Rat.divInt 6 (-4))).toArray⟩ : ByteArray) = ⟨#[45, 51, 47, 50]⟩ := (by
    apply ByteArray.ext
    show (ratText (Rat.divInt 6 (-4))).toArray = _
    rw [ratText_lit (q := Rat.divInt 6 (-4)) (-3) 2 (by decide +kernel) (by decide +kernel)]
    simp [intText, Lib.decDigits_one])
theorem tx_b : (⟨(ratText (Rat.divInt 4 2)).toArray⟩ : ByteArray) = ⟨#[50]⟩ := (by
    apply ByteArray.ext
    show (ratText (Rat.divInt 4 2)).toArray = _
    rw [ratText_lit (q := Rat.divInt 4 2) 2 1 (by decide +kernel) (by decide +kernel)]
    simp [intText, Lib.decDigits_one])
theorem tx_c : (⟨(ratText (Rat.divInt 1 0)).toArray⟩ : ByteArray) = ⟨#[48]⟩ := (by
    apply ByteArray.ext
    show (ratText (Rat.divInt 1 0)).toArray = _
    rw [ratText_lit (q := Rat.divInt 1 0) 0 1 (by decide +kernel) (by decide +kernel)]
    simp [intText])
theorem tx_d : (⟨(ratText (Rat.divInt 1 2 + Rat.divInt 1 3)).toArray⟩ : ByteArray) = ⟨#[53, 47, 54]⟩ := (by
    apply ByteArray.ext
    show (ratText (Rat.divInt 1 2 + Rat.divInt 1 3)).toArray = _
    rw [ratText_lit (q := Rat.divInt 1 2 + Rat.divInt 1 3) 5 6 (by decide +kernel) (by decide +kernel)]
    simp [intText, Lib.decDigits_one])
theorem tx_e : (⟨(ratText (Rat.divInt 1 2 + Rat.divInt 1 2)).toArray⟩ : ByteArray) = ⟨#[49]⟩ := (by
    apply ByteArray.ext
    show (ratText (Rat.divInt 1 2 + Rat.divInt 1 2)).toArray = _
    rw [ratText_lit (q := Rat.divInt 1 2 + Rat.divInt 1 2) 1 1 (by decide +kernel) (by decide +kernel)]
    simp [intText, Lib.decDigits_one])
theorem tx_f : (⟨(ratText (Rat.divInt 1 2 / Rat.divInt (-1) 4)).toArray⟩ : ByteArray) = ⟨#[45, 50]⟩ := (by
    apply ByteArray.ext
    show (ratText (Rat.divInt 1 2 / Rat.divInt (-1) 4)).toArray = _
    rw [ratText_lit (q := Rat.divInt 1 2 / Rat.divInt (-1) 4) (-2) 1 (by decide +kernel) (by decide +kernel)]
    simp [intText, Lib.decDigits_one])
theorem tx_g : (⟨(ratText (Rat.divInt (-6) 4)).toArray⟩ : ByteArray) = ⟨#[45, 51, 47, 50]⟩ := (by
    apply ByteArray.ext
    show (ratText (Rat.divInt (-6) 4)).toArray = _
    rw [ratText_lit (q := Rat.divInt (-6) 4) (-3) 2 (by decide +kernel) (by decide +kernel)]
    simp [intText, Lib.decDigits_one])

set_option maxRecDepth 100000 in
set_option maxHeartbeats 8000000 in
theorem awake_any (w : World) (hT : Tz w) (ht : Tab w) :
    Calls Tryz.prog 13 #[] w fun e w' => e = .returned (.bool true) ∧ Below w.heap.size w w' := by
  have HL := Lib.hid (TSt.start hT ht)
  have HPP := Lib.hid (fun (W : World) (h : Tz W) => (by
    have h1 := rparse_good W ⟨#[45, 54, 47, 52]⟩ (by decide) h (by rw [show (⟨#[45, 54, 47, 52]⟩ : ByteArray).data.toList = [45, 54, 47, 52] from rfl, parse_lit])
    rw [show (⟨#[45, 54, 47, 52]⟩ : ByteArray).data.toList = [45, 54, 47, 52] from rfl, parse_lit] at h1
    exact h1 : Calls Tryz.prog 50 #[.string ⟨#[45, 54, 47, 52]⟩] W (RetRE (Rat.divInt (-6) 4) 0 W)))
  clear hT ht
  go_enter Tryz.func13, Tryz.ntmps13
  go_wp2_with fail
  refine (rof_any _ 1 1 (by decide) (by decide) (by decide) (by decide) (by first | exact HL.out.tz | exact HL.out.drew.tz)).mono ?_
  rintro e w1 ⟨r1, rfl, h1, b1⟩
  replace HL := Lib.hid (TSt.below (by first | exact HL.out | exact HL.out.drew) b1)
  have H1 := Lib.hid h1.now
  clear h1
  clear b1
  go_wp2_with fail
  refine (rof_any _ 0 1 (by decide) (by decide) (by decide) (by decide) (by first | exact HL.out.tz | exact HL.out.drew.tz)).mono ?_
  rintro e w2 ⟨r2, rfl, h2, b2⟩
  replace HL := Lib.hid (TSt.below (by first | exact HL.out | exact HL.out.drew) b2)
  replace H1 := Lib.hid (RatN.below (by first | exact H1.out | exact H1.out.drew) b2)
  have H2 := Lib.hid h2.now
  clear h2
  clear b2
  go_wp2_with fail
  refine (rdiv_z _ r1 r2 (Rat.divInt 1 1) (Rat.divInt 0 1) 1 (by decide) (by decide) (RatN.rat (by first | exact H1.out | exact H1.out.drew) (Sz.up (sz_of (by decide) (by decide)) (by decide))) (RatN.rat (by first | exact H2.out | exact H2.out.drew) (Sz.up (sz_of (by decide) (by decide)) (by decide))) HL.out.tz (by decide +kernel)).mono ?_
  rintro e w3 ⟨r3, rfl, h3, b3⟩
  replace HL := Lib.hid (TSt.below (by first | exact HL.out | exact HL.out.drew) b3)
  replace H1 := Lib.hid (RatN.below (by first | exact H1.out | exact H1.out.drew) b3)
  replace H2 := Lib.hid (RatN.below (by first | exact H2.out | exact H2.out.drew) b3)
  clear h3
  clear b3
  replace HL := Lib.hid (HL.out.alloc (.cells #[.bool r3.num.neg, .slice r3.num.A r3.num.k r3.num.c, .bool r3.den.neg, .slice r3.den.A r3.den.k r3.den.c] 31))
  have HB3 := Lib.hid (Blk.new w3 31 #[.bool r3.num.neg, .slice r3.num.A r3.num.k r3.num.c, .bool r3.den.neg, .slice r3.den.A r3.den.k r3.den.c])
  go_wp2_with fail
  generalize hW3 : w3.alloc (.cells #[.bool r3.num.neg, .slice r3.num.A r3.num.k r3.num.c, .bool r3.den.neg, .slice r3.den.A r3.den.k r3.den.c] 31) = W3 at *
  generalize hg3 : w3.heap.size = g3 at *
  clear hW3 hg3
  have kW3HB30 : W3.cell? ⟨g3, 0, none⟩ = some (.bool r3.num.neg) := HB3.out.cell 0
  have kW3HB31 : W3.cell? ⟨g3, 1, none⟩ = some (.slice r3.num.A r3.num.k r3.num.c) := HB3.out.cell 1
  have kW3HB32 : W3.cell? ⟨g3, 2, none⟩ = some (.bool r3.den.neg) := HB3.out.cell 2
  have kW3HB33 : W3.cell? ⟨g3, 3, none⟩ = some (.slice r3.den.A r3.den.k r3.den.c) := HB3.out.cell 3
  refine (HPP.out _ HL.out.tz).mono ?_
  rintro e w4 ⟨rp, rfl, hp, b4⟩
  replace HL := Lib.hid (TSt.below (by first | exact HL.out | exact HL.out.drew) b4)
  have HPr := Lib.hid hp.now
  clear hp
  clear b4
  replace HL := Lib.hid (HL.out.alloc (.cells #[.bool rp.num.neg, .slice rp.num.A rp.num.k rp.num.c, .bool rp.den.neg, .slice rp.den.A rp.den.k rp.den.c] 31))
  replace HPr := Lib.hid ((RatN.old HPr.out).alloc (.cells #[.bool rp.num.neg, .slice rp.num.A rp.num.k rp.num.c, .bool rp.den.neg, .slice rp.den.A rp.den.k rp.den.c] 31)).now
  have HB4 := Lib.hid (Blk.new w4 31 #[.bool rp.num.neg, .slice rp.num.A rp.num.k rp.num.c, .bool rp.den.neg, .slice rp.den.A rp.den.k rp.den.c])
  go_wp2_with fail
  generalize hW4 : w4.alloc (.cells #[.bool rp.num.neg, .slice rp.num.A rp.num.k rp.num.c, .bool rp.den.neg, .slice rp.den.A rp.den.k rp.den.c] 31) = W4 at *
  generalize hg4 : w4.heap.size = g4 at *
  clear hW4 hg4
  have kW4HB40 : W4.cell? ⟨g4, 0, none⟩ = some (.bool rp.num.neg) := HB4.out.cell 0
  have kW4HB41 : W4.cell? ⟨g4, 1, none⟩ = some (.slice rp.num.A rp.num.k rp.num.c) := HB4.out.cell 1
  have kW4HB42 : W4.cell? ⟨g4, 2, none⟩ = some (.bool rp.den.neg) := HB4.out.cell 2
  have kW4HB43 : W4.cell? ⟨g4, 3, none⟩ = some (.slice rp.den.A rp.den.k rp.den.c) := HB4.out.cell 3
  refine (rof_any _ 6 (-4) (by decide) (by decide) (by decide) (by decide) (by first | exact HL.out.tz | exact HL.out.drew.tz)).mono ?_
  rintro e w5 ⟨r5, rfl, h5, b5⟩
  replace HL := Lib.hid (TSt.below (by first | exact HL.out | exact HL.out.drew) b5)
  replace HPr := Lib.hid (RatN.below (by first | exact HPr.out | exact HPr.out.drew) b5)
  replace HB4 := Lib.hid (Blk.below (by exact HB4.out) b5 (by exact HB4.out.lt))
  have sw5HB40 : w5.cell? ⟨g4, 0, none⟩ = some (.bool rp.num.neg) := HB4.out.cell 0
  have sw5HB41 : w5.cell? ⟨g4, 1, none⟩ = some (.slice rp.num.A rp.num.k rp.num.c) := HB4.out.cell 1
  have sw5HB42 : w5.cell? ⟨g4, 2, none⟩ = some (.bool rp.den.neg) := HB4.out.cell 2
  have sw5HB43 : w5.cell? ⟨g4, 3, none⟩ = some (.slice rp.den.A rp.den.k rp.den.c) := HB4.out.cell 3
  have H5 := Lib.hid h5.now
  clear h5
  clear b5
  go_wp2_with fail
  refine (is_any _ r5 (Rat.divInt 6 (-4)) _ 1 (by decide) (by decide) (by first | exact H5.out | exact H5.out.drew) (sz_of (by decide) (by decide)) HL.out.tz HL.out.tab tx_a).mono ?_
  rintro e w6 ⟨rfl, b6⟩
  replace HL := Lib.hid (TSt.below (by first | exact HL.out | exact HL.out.drew) b6)
  replace HPr := Lib.hid (RatN.below (by first | exact HPr.out | exact HPr.out.drew) b6)
  replace H5 := Lib.hid (RatN.below (by first | exact H5.out | exact H5.out.drew) b6)
  replace HB4 := Lib.hid (Blk.below (by exact HB4.out) b6 (by exact HB4.out.lt))
  have sw6HB40 : w6.cell? ⟨g4, 0, none⟩ = some (.bool rp.num.neg) := HB4.out.cell 0
  have sw6HB41 : w6.cell? ⟨g4, 1, none⟩ = some (.slice rp.num.A rp.num.k rp.num.c) := HB4.out.cell 1
  have sw6HB42 : w6.cell? ⟨g4, 2, none⟩ = some (.bool rp.den.neg) := HB4.out.cell 2
  have sw6HB43 : w6.cell? ⟨g4, 3, none⟩ = some (.slice rp.den.A rp.den.k rp.den.c) := HB4.out.cell 3
  clear b6
  go_wp2_with fail
  refine (rof_any _ 4 2 (by decide) (by decide) (by decide) (by decide) (by first | exact HL.out.tz | exact HL.out.drew.tz)).mono ?_
  rintro e w7 ⟨r7, rfl, h7, b7⟩
  replace HL := Lib.hid (TSt.below (by first | exact HL.out | exact HL.out.drew) b7)
  replace HPr := Lib.hid (RatN.below (by first | exact HPr.out | exact HPr.out.drew) b7)
  replace HB4 := Lib.hid (Blk.below (by exact HB4.out) b7 (by exact HB4.out.lt))
  have sw7HB40 : w7.cell? ⟨g4, 0, none⟩ = some (.bool rp.num.neg) := HB4.out.cell 0
  have sw7HB41 : w7.cell? ⟨g4, 1, none⟩ = some (.slice rp.num.A rp.num.k rp.num.c) := HB4.out.cell 1
  have sw7HB42 : w7.cell? ⟨g4, 2, none⟩ = some (.bool rp.den.neg) := HB4.out.cell 2
  have sw7HB43 : w7.cell? ⟨g4, 3, none⟩ = some (.slice rp.den.A rp.den.k rp.den.c) := HB4.out.cell 3
  have H7 := Lib.hid h7.now
  clear h7
  clear b7
  go_wp2_with fail
  refine (is_any _ r7 (Rat.divInt 4 2) _ 1 (by decide) (by decide) (by first | exact H7.out | exact H7.out.drew) (sz_of (by decide) (by decide)) HL.out.tz HL.out.tab tx_b).mono ?_
  rintro e w8 ⟨rfl, b8⟩
  replace HL := Lib.hid (TSt.below (by first | exact HL.out | exact HL.out.drew) b8)
  replace HPr := Lib.hid (RatN.below (by first | exact HPr.out | exact HPr.out.drew) b8)
  replace H7 := Lib.hid (RatN.below (by first | exact H7.out | exact H7.out.drew) b8)
  replace HB4 := Lib.hid (Blk.below (by exact HB4.out) b8 (by exact HB4.out.lt))
  have sw8HB40 : w8.cell? ⟨g4, 0, none⟩ = some (.bool rp.num.neg) := HB4.out.cell 0
  have sw8HB41 : w8.cell? ⟨g4, 1, none⟩ = some (.slice rp.num.A rp.num.k rp.num.c) := HB4.out.cell 1
  have sw8HB42 : w8.cell? ⟨g4, 2, none⟩ = some (.bool rp.den.neg) := HB4.out.cell 2
  have sw8HB43 : w8.cell? ⟨g4, 3, none⟩ = some (.slice rp.den.A rp.den.k rp.den.c) := HB4.out.cell 3
  clear b8
  go_wp2_with fail
  refine (rof_any _ 4 2 (by decide) (by decide) (by decide) (by decide) (by first | exact HL.out.tz | exact HL.out.drew.tz)).mono ?_
  rintro e w9 ⟨r9, rfl, h9, b9⟩
  replace HL := Lib.hid (TSt.below (by first | exact HL.out | exact HL.out.drew) b9)
  replace HPr := Lib.hid (RatN.below (by first | exact HPr.out | exact HPr.out.drew) b9)
  replace HB4 := Lib.hid (Blk.below (by exact HB4.out) b9 (by exact HB4.out.lt))
  have sw9HB40 : w9.cell? ⟨g4, 0, none⟩ = some (.bool rp.num.neg) := HB4.out.cell 0
  have sw9HB41 : w9.cell? ⟨g4, 1, none⟩ = some (.slice rp.num.A rp.num.k rp.num.c) := HB4.out.cell 1
  have sw9HB42 : w9.cell? ⟨g4, 2, none⟩ = some (.bool rp.den.neg) := HB4.out.cell 2
  have sw9HB43 : w9.cell? ⟨g4, 3, none⟩ = some (.slice rp.den.A rp.den.k rp.den.c) := HB4.out.cell 3
  have H9 := Lib.hid h9.now
  clear h9
  clear b9
  have hk0 : r9.den.k = 0 := (dn_k H9.out).2 (by decide +kernel)
  go_wp2_with fail
  refine (rof_any _ 1 0 (by decide) (by decide) (by decide) (by decide) (by first | exact HL.out.tz | exact HL.out.drew.tz)).mono ?_
  rintro e w10 ⟨r10, rfl, h10, b10⟩
  replace HL := Lib.hid (TSt.below (by first | exact HL.out | exact HL.out.drew) b10)
  replace HPr := Lib.hid (RatN.below (by first | exact HPr.out | exact HPr.out.drew) b10)
  replace HB4 := Lib.hid (Blk.below (by exact HB4.out) b10 (by exact HB4.out.lt))
  have sw10HB40 : w10.cell? ⟨g4, 0, none⟩ = some (.bool rp.num.neg) := HB4.out.cell 0
  have sw10HB41 : w10.cell? ⟨g4, 1, none⟩ = some (.slice rp.num.A rp.num.k rp.num.c) := HB4.out.cell 1
  have sw10HB42 : w10.cell? ⟨g4, 2, none⟩ = some (.bool rp.den.neg) := HB4.out.cell 2
  have sw10HB43 : w10.cell? ⟨g4, 3, none⟩ = some (.slice rp.den.A rp.den.k rp.den.c) := HB4.out.cell 3
  have H10 := Lib.hid h10.now
  clear h10
  clear b10
  go_wp2_with fail
  refine (is_any _ r10 (Rat.divInt 1 0) _ 1 (by decide) (by decide) (by first | exact H10.out | exact H10.out.drew) (sz_of (by decide) (by decide)) HL.out.tz HL.out.tab tx_c).mono ?_
  rintro e w11 ⟨rfl, b11⟩
  replace HL := Lib.hid (TSt.below (by first | exact HL.out | exact HL.out.drew) b11)
  replace HPr := Lib.hid (RatN.below (by first | exact HPr.out | exact HPr.out.drew) b11)
  replace H10 := Lib.hid (RatN.below (by first | exact H10.out | exact H10.out.drew) b11)
  replace HB4 := Lib.hid (Blk.below (by exact HB4.out) b11 (by exact HB4.out.lt))
  have sw11HB40 : w11.cell? ⟨g4, 0, none⟩ = some (.bool rp.num.neg) := HB4.out.cell 0
  have sw11HB41 : w11.cell? ⟨g4, 1, none⟩ = some (.slice rp.num.A rp.num.k rp.num.c) := HB4.out.cell 1
  have sw11HB42 : w11.cell? ⟨g4, 2, none⟩ = some (.bool rp.den.neg) := HB4.out.cell 2
  have sw11HB43 : w11.cell? ⟨g4, 3, none⟩ = some (.slice rp.den.A rp.den.k rp.den.c) := HB4.out.cell 3
  clear b11
  go_wp2_with fail
  refine (rof_any _ 1 2 (by decide) (by decide) (by decide) (by decide) (by first | exact HL.out.tz | exact HL.out.drew.tz)).mono ?_
  rintro e w12 ⟨r12, rfl, h12, b12⟩
  replace HL := Lib.hid (TSt.below (by first | exact HL.out | exact HL.out.drew) b12)
  replace HPr := Lib.hid (RatN.below (by first | exact HPr.out | exact HPr.out.drew) b12)
  replace HB4 := Lib.hid (Blk.below (by exact HB4.out) b12 (by exact HB4.out.lt))
  have sw12HB40 : w12.cell? ⟨g4, 0, none⟩ = some (.bool rp.num.neg) := HB4.out.cell 0
  have sw12HB41 : w12.cell? ⟨g4, 1, none⟩ = some (.slice rp.num.A rp.num.k rp.num.c) := HB4.out.cell 1
  have sw12HB42 : w12.cell? ⟨g4, 2, none⟩ = some (.bool rp.den.neg) := HB4.out.cell 2
  have sw12HB43 : w12.cell? ⟨g4, 3, none⟩ = some (.slice rp.den.A rp.den.k rp.den.c) := HB4.out.cell 3
  have H12 := Lib.hid h12.now
  clear h12
  clear b12
  go_wp2_with fail
  refine (rof_any _ 1 3 (by decide) (by decide) (by decide) (by decide) (by first | exact HL.out.tz | exact HL.out.drew.tz)).mono ?_
  rintro e w13 ⟨r13, rfl, h13, b13⟩
  replace HL := Lib.hid (TSt.below (by first | exact HL.out | exact HL.out.drew) b13)
  replace HPr := Lib.hid (RatN.below (by first | exact HPr.out | exact HPr.out.drew) b13)
  replace H12 := Lib.hid (RatN.below (by first | exact H12.out | exact H12.out.drew) b13)
  replace HB4 := Lib.hid (Blk.below (by exact HB4.out) b13 (by exact HB4.out.lt))
  have sw13HB40 : w13.cell? ⟨g4, 0, none⟩ = some (.bool rp.num.neg) := HB4.out.cell 0
  have sw13HB41 : w13.cell? ⟨g4, 1, none⟩ = some (.slice rp.num.A rp.num.k rp.num.c) := HB4.out.cell 1
  have sw13HB42 : w13.cell? ⟨g4, 2, none⟩ = some (.bool rp.den.neg) := HB4.out.cell 2
  have sw13HB43 : w13.cell? ⟨g4, 3, none⟩ = some (.slice rp.den.A rp.den.k rp.den.c) := HB4.out.cell 3
  have H13 := Lib.hid h13.now
  clear h13
  clear b13
  go_wp2_with fail
  refine (radd_any _ r12 r13 (Rat.divInt 1 2) (Rat.divInt 1 3) 1 (by decide) (by decide) (RatN.rat (by first | exact H12.out | exact H12.out.drew) (Sz.up (sz_of (by decide) (by decide)) (by decide))) (RatN.rat (by first | exact H13.out | exact H13.out.drew) (Sz.up (sz_of (by decide) (by decide)) (by decide))) HL.out.tz).mono ?_
  rintro e w14 ⟨r14, rfl, h14, b14⟩
  replace HL := Lib.hid (TSt.below (by first | exact HL.out | exact HL.out.drew) b14)
  replace HPr := Lib.hid (RatN.below (by first | exact HPr.out | exact HPr.out.drew) b14)
  replace H12 := Lib.hid (RatN.below (by first | exact H12.out | exact H12.out.drew) b14)
  replace H13 := Lib.hid (RatN.below (by first | exact H13.out | exact H13.out.drew) b14)
  replace HB4 := Lib.hid (Blk.below (by exact HB4.out) b14 (by exact HB4.out.lt))
  have sw14HB40 : w14.cell? ⟨g4, 0, none⟩ = some (.bool rp.num.neg) := HB4.out.cell 0
  have sw14HB41 : w14.cell? ⟨g4, 1, none⟩ = some (.slice rp.num.A rp.num.k rp.num.c) := HB4.out.cell 1
  have sw14HB42 : w14.cell? ⟨g4, 2, none⟩ = some (.bool rp.den.neg) := HB4.out.cell 2
  have sw14HB43 : w14.cell? ⟨g4, 3, none⟩ = some (.slice rp.den.A rp.den.k rp.den.c) := HB4.out.cell 3
  have H14 := Lib.hid h14.now
  clear h14
  clear b14
  go_wp2_with fail
  refine (is_any _ r14 ((Rat.divInt 1 2) + (Rat.divInt 1 3)) _ 3 (by decide) (by decide) (by first | exact H14.out | exact H14.out.drew) (Sz.add (n := 1) (m := 1) (sz_of (by decide) (by decide)) (sz_of (by decide) (by decide))) HL.out.tz HL.out.tab tx_d).mono ?_
  rintro e w15 ⟨rfl, b15⟩
  replace HL := Lib.hid (TSt.below (by first | exact HL.out | exact HL.out.drew) b15)
  replace H14 := Lib.hid (RatN.below (by first | exact H14.out | exact H14.out.drew) b15)
  replace HPr := Lib.hid (RatN.below (by first | exact HPr.out | exact HPr.out.drew) b15)
  replace HB4 := Lib.hid (Blk.below (by exact HB4.out) b15 (by exact HB4.out.lt))
  have sw15HB40 : w15.cell? ⟨g4, 0, none⟩ = some (.bool rp.num.neg) := HB4.out.cell 0
  have sw15HB41 : w15.cell? ⟨g4, 1, none⟩ = some (.slice rp.num.A rp.num.k rp.num.c) := HB4.out.cell 1
  have sw15HB42 : w15.cell? ⟨g4, 2, none⟩ = some (.bool rp.den.neg) := HB4.out.cell 2
  have sw15HB43 : w15.cell? ⟨g4, 3, none⟩ = some (.slice rp.den.A rp.den.k rp.den.c) := HB4.out.cell 3
  clear b15
  go_wp2_with fail
  refine (rof_any _ 1 2 (by decide) (by decide) (by decide) (by decide) (by first | exact HL.out.tz | exact HL.out.drew.tz)).mono ?_
  rintro e w16 ⟨r16, rfl, h16, b16⟩
  replace HL := Lib.hid (TSt.below (by first | exact HL.out | exact HL.out.drew) b16)
  replace HPr := Lib.hid (RatN.below (by first | exact HPr.out | exact HPr.out.drew) b16)
  replace HB4 := Lib.hid (Blk.below (by exact HB4.out) b16 (by exact HB4.out.lt))
  have sw16HB40 : w16.cell? ⟨g4, 0, none⟩ = some (.bool rp.num.neg) := HB4.out.cell 0
  have sw16HB41 : w16.cell? ⟨g4, 1, none⟩ = some (.slice rp.num.A rp.num.k rp.num.c) := HB4.out.cell 1
  have sw16HB42 : w16.cell? ⟨g4, 2, none⟩ = some (.bool rp.den.neg) := HB4.out.cell 2
  have sw16HB43 : w16.cell? ⟨g4, 3, none⟩ = some (.slice rp.den.A rp.den.k rp.den.c) := HB4.out.cell 3
  have H16 := Lib.hid h16.now
  clear h16
  clear b16
  go_wp2_with fail
  refine (rof_any _ 1 2 (by decide) (by decide) (by decide) (by decide) (by first | exact HL.out.tz | exact HL.out.drew.tz)).mono ?_
  rintro e w17 ⟨r17, rfl, h17, b17⟩
  replace HL := Lib.hid (TSt.below (by first | exact HL.out | exact HL.out.drew) b17)
  replace HPr := Lib.hid (RatN.below (by first | exact HPr.out | exact HPr.out.drew) b17)
  replace H16 := Lib.hid (RatN.below (by first | exact H16.out | exact H16.out.drew) b17)
  replace HB4 := Lib.hid (Blk.below (by exact HB4.out) b17 (by exact HB4.out.lt))
  have sw17HB40 : w17.cell? ⟨g4, 0, none⟩ = some (.bool rp.num.neg) := HB4.out.cell 0
  have sw17HB41 : w17.cell? ⟨g4, 1, none⟩ = some (.slice rp.num.A rp.num.k rp.num.c) := HB4.out.cell 1
  have sw17HB42 : w17.cell? ⟨g4, 2, none⟩ = some (.bool rp.den.neg) := HB4.out.cell 2
  have sw17HB43 : w17.cell? ⟨g4, 3, none⟩ = some (.slice rp.den.A rp.den.k rp.den.c) := HB4.out.cell 3
  have H17 := Lib.hid h17.now
  clear h17
  clear b17
  go_wp2_with fail
  refine (radd_any _ r16 r17 (Rat.divInt 1 2) (Rat.divInt 1 2) 1 (by decide) (by decide) (RatN.rat (by first | exact H16.out | exact H16.out.drew) (Sz.up (sz_of (by decide) (by decide)) (by decide))) (RatN.rat (by first | exact H17.out | exact H17.out.drew) (Sz.up (sz_of (by decide) (by decide)) (by decide))) HL.out.tz).mono ?_
  rintro e w18 ⟨r18, rfl, h18, b18⟩
  replace HL := Lib.hid (TSt.below (by first | exact HL.out | exact HL.out.drew) b18)
  replace HPr := Lib.hid (RatN.below (by first | exact HPr.out | exact HPr.out.drew) b18)
  replace H16 := Lib.hid (RatN.below (by first | exact H16.out | exact H16.out.drew) b18)
  replace H17 := Lib.hid (RatN.below (by first | exact H17.out | exact H17.out.drew) b18)
  replace HB4 := Lib.hid (Blk.below (by exact HB4.out) b18 (by exact HB4.out.lt))
  have sw18HB40 : w18.cell? ⟨g4, 0, none⟩ = some (.bool rp.num.neg) := HB4.out.cell 0
  have sw18HB41 : w18.cell? ⟨g4, 1, none⟩ = some (.slice rp.num.A rp.num.k rp.num.c) := HB4.out.cell 1
  have sw18HB42 : w18.cell? ⟨g4, 2, none⟩ = some (.bool rp.den.neg) := HB4.out.cell 2
  have sw18HB43 : w18.cell? ⟨g4, 3, none⟩ = some (.slice rp.den.A rp.den.k rp.den.c) := HB4.out.cell 3
  have H18 := Lib.hid h18.now
  clear h18
  clear b18
  go_wp2_with fail
  refine (is_any _ r18 ((Rat.divInt 1 2) + (Rat.divInt 1 2)) _ 3 (by decide) (by decide) (by first | exact H18.out | exact H18.out.drew) (Sz.add (n := 1) (m := 1) (sz_of (by decide) (by decide)) (sz_of (by decide) (by decide))) HL.out.tz HL.out.tab tx_e).mono ?_
  rintro e w19 ⟨rfl, b19⟩
  replace HL := Lib.hid (TSt.below (by first | exact HL.out | exact HL.out.drew) b19)
  replace H18 := Lib.hid (RatN.below (by first | exact H18.out | exact H18.out.drew) b19)
  replace HPr := Lib.hid (RatN.below (by first | exact HPr.out | exact HPr.out.drew) b19)
  replace HB4 := Lib.hid (Blk.below (by exact HB4.out) b19 (by exact HB4.out.lt))
  have sw19HB40 : w19.cell? ⟨g4, 0, none⟩ = some (.bool rp.num.neg) := HB4.out.cell 0
  have sw19HB41 : w19.cell? ⟨g4, 1, none⟩ = some (.slice rp.num.A rp.num.k rp.num.c) := HB4.out.cell 1
  have sw19HB42 : w19.cell? ⟨g4, 2, none⟩ = some (.bool rp.den.neg) := HB4.out.cell 2
  have sw19HB43 : w19.cell? ⟨g4, 3, none⟩ = some (.slice rp.den.A rp.den.k rp.den.c) := HB4.out.cell 3
  clear b19
  go_wp2_with fail
  refine (rof_any _ 1 2 (by decide) (by decide) (by decide) (by decide) (by first | exact HL.out.tz | exact HL.out.drew.tz)).mono ?_
  rintro e w20 ⟨r20, rfl, h20, b20⟩
  replace HL := Lib.hid (TSt.below (by first | exact HL.out | exact HL.out.drew) b20)
  replace HPr := Lib.hid (RatN.below (by first | exact HPr.out | exact HPr.out.drew) b20)
  replace HB4 := Lib.hid (Blk.below (by exact HB4.out) b20 (by exact HB4.out.lt))
  have sw20HB40 : w20.cell? ⟨g4, 0, none⟩ = some (.bool rp.num.neg) := HB4.out.cell 0
  have sw20HB41 : w20.cell? ⟨g4, 1, none⟩ = some (.slice rp.num.A rp.num.k rp.num.c) := HB4.out.cell 1
  have sw20HB42 : w20.cell? ⟨g4, 2, none⟩ = some (.bool rp.den.neg) := HB4.out.cell 2
  have sw20HB43 : w20.cell? ⟨g4, 3, none⟩ = some (.slice rp.den.A rp.den.k rp.den.c) := HB4.out.cell 3
  have H20 := Lib.hid h20.now
  clear h20
  clear b20
  go_wp2_with fail
  refine (rof_any _ (-1) 4 (by decide) (by decide) (by decide) (by decide) (by first | exact HL.out.tz | exact HL.out.drew.tz)).mono ?_
  rintro e w21 ⟨r21, rfl, h21, b21⟩
  replace HL := Lib.hid (TSt.below (by first | exact HL.out | exact HL.out.drew) b21)
  replace HPr := Lib.hid (RatN.below (by first | exact HPr.out | exact HPr.out.drew) b21)
  replace H20 := Lib.hid (RatN.below (by first | exact H20.out | exact H20.out.drew) b21)
  replace HB4 := Lib.hid (Blk.below (by exact HB4.out) b21 (by exact HB4.out.lt))
  have sw21HB40 : w21.cell? ⟨g4, 0, none⟩ = some (.bool rp.num.neg) := HB4.out.cell 0
  have sw21HB41 : w21.cell? ⟨g4, 1, none⟩ = some (.slice rp.num.A rp.num.k rp.num.c) := HB4.out.cell 1
  have sw21HB42 : w21.cell? ⟨g4, 2, none⟩ = some (.bool rp.den.neg) := HB4.out.cell 2
  have sw21HB43 : w21.cell? ⟨g4, 3, none⟩ = some (.slice rp.den.A rp.den.k rp.den.c) := HB4.out.cell 3
  have H21 := Lib.hid h21.now
  clear h21
  clear b21
  go_wp2_with fail
  refine (rquo_any _ r20 r21 (Rat.divInt 1 2) (Rat.divInt (-1) 4) 1 (by decide) (by decide) (RatN.rat (by first | exact H20.out | exact H20.out.drew) (Sz.up (sz_of (by decide) (by decide)) (by decide))) (RatN.rat (by first | exact H21.out | exact H21.out.drew) (Sz.up (sz_of (by decide) (by decide)) (by decide))) HL.out.tz).mono ?_
  rintro e w22 ⟨r22, rfl, h22, b22⟩
  replace HL := Lib.hid (TSt.below (by first | exact HL.out | exact HL.out.drew) b22)
  replace HPr := Lib.hid (RatN.below (by first | exact HPr.out | exact HPr.out.drew) b22)
  replace H20 := Lib.hid (RatN.below (by first | exact H20.out | exact H20.out.drew) b22)
  replace H21 := Lib.hid (RatN.below (by first | exact H21.out | exact H21.out.drew) b22)
  replace HB4 := Lib.hid (Blk.below (by exact HB4.out) b22 (by exact HB4.out.lt))
  have sw22HB40 : w22.cell? ⟨g4, 0, none⟩ = some (.bool rp.num.neg) := HB4.out.cell 0
  have sw22HB41 : w22.cell? ⟨g4, 1, none⟩ = some (.slice rp.num.A rp.num.k rp.num.c) := HB4.out.cell 1
  have sw22HB42 : w22.cell? ⟨g4, 2, none⟩ = some (.bool rp.den.neg) := HB4.out.cell 2
  have sw22HB43 : w22.cell? ⟨g4, 3, none⟩ = some (.slice rp.den.A rp.den.k rp.den.c) := HB4.out.cell 3
  have H22 := Lib.hid h22.now
  clear h22
  clear b22
  go_wp2_with fail
  refine (is_any _ r22 ((Rat.divInt 1 2) / (Rat.divInt (-1) 4)) _ 3 (by decide) (by decide) (by first | exact H22.out | exact H22.out.drew) (Sz.quo (n := 1) (m := 1) (sz_of (by decide) (by decide)) (sz_of (by decide) (by decide))) HL.out.tz HL.out.tab tx_f).mono ?_
  rintro e w23 ⟨rfl, b23⟩
  replace HL := Lib.hid (TSt.below (by first | exact HL.out | exact HL.out.drew) b23)
  replace H22 := Lib.hid (RatN.below (by first | exact H22.out | exact H22.out.drew) b23)
  replace HPr := Lib.hid (RatN.below (by first | exact HPr.out | exact HPr.out.drew) b23)
  replace HB4 := Lib.hid (Blk.below (by exact HB4.out) b23 (by exact HB4.out.lt))
  have sw23HB40 : w23.cell? ⟨g4, 0, none⟩ = some (.bool rp.num.neg) := HB4.out.cell 0
  have sw23HB41 : w23.cell? ⟨g4, 1, none⟩ = some (.slice rp.num.A rp.num.k rp.num.c) := HB4.out.cell 1
  have sw23HB42 : w23.cell? ⟨g4, 2, none⟩ = some (.bool rp.den.neg) := HB4.out.cell 2
  have sw23HB43 : w23.cell? ⟨g4, 3, none⟩ = some (.slice rp.den.A rp.den.k rp.den.c) := HB4.out.cell 3
  clear b23
  go_wp2_with fail
  refine (is_any _ rp (Rat.divInt (-6) 4) _ 1 (by decide) (by decide) (by first | exact HPr.out | exact HPr.out.drew) (sz_of (by decide) (by decide)) HL.out.tz HL.out.tab tx_g).mono ?_
  rintro e w24 ⟨rfl, b24⟩
  replace HL := Lib.hid (TSt.below (by first | exact HL.out | exact HL.out.drew) b24)
  replace HPr := Lib.hid (RatN.below (by first | exact HPr.out | exact HPr.out.drew) b24)
  replace HB4 := Lib.hid (Blk.below (by exact HB4.out) b24 (by exact HB4.out.lt))
  have sw24HB40 : w24.cell? ⟨g4, 0, none⟩ = some (.bool rp.num.neg) := HB4.out.cell 0
  have sw24HB41 : w24.cell? ⟨g4, 1, none⟩ = some (.slice rp.num.A rp.num.k rp.num.c) := HB4.out.cell 1
  have sw24HB42 : w24.cell? ⟨g4, 2, none⟩ = some (.bool rp.den.neg) := HB4.out.cell 2
  have sw24HB43 : w24.cell? ⟨g4, 3, none⟩ = some (.slice rp.den.A rp.den.k rp.den.c) := HB4.out.cell 3
  clear b24
  go_wp2_with fail
  go_ret
  exact ⟨rfl, HL.out.bel⟩
end Go.Proofs.YtcinoicpibleoaaGreatDoor
