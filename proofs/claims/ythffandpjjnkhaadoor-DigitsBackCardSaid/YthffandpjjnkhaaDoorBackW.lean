/-
  tripwirelaw03.DigitsBack: the walk.
-/
import Derived.Test.YthffandpjjnkhaaDoorBackA
import Derived.Deep.DeepMust
import Derived.Lib.IndexBytes
namespace Go.Proofs.YthffandpjjnkhaaDoor
open Go.RowKit

theorem alloc_lt (w : World) (o : Obj) : w.heap.size < (w.alloc o).heap.size := by simp

set_option maxRecDepth 100000 in
set_option maxHeartbeats 4000000 in
theorem back_ok_neg (w : World) (i : IV) (z : Int) (s : ByteArray) (d : Nat) (hi : IntD i z 30 w) (hs : s.size ≤ 700) (hd : d < 256) (htab : Tab w) (hr : (parseN s.data.toList).1 = 0) (hz : z < 0) :
    Calls Tryd.prog 6 #[.agg #[.bool i.neg, .slice i.A i.k i.c], .string s, .int .u8 (d : Int)] w fun e w' => e = .returned (.bool true) ∧ Below w.heap.size w w' := by
  have hik := hi.le
  have Hlt := Lib.hid hi.lt
  have Hsh := Lib.hid (short_of hi.lt)
  have hsg : z.sign = -1 := by exact Int.sign_eq_neg_one_of_neg hz
  have Hsg := Lib.hid hsg
  have Hz := Lib.hid hz
  have hs7 : ¬ (700 : Int) < (s.size : Int) := by omega
  obtain ⟨T, hT⟩ : ∃ T : ByteArray, T = ⟨(intText (decide (z < 0)) z.natAbs).toArray⟩ := ⟨_, rfl⟩
  have HTT := Lib.hid hT
  have HP1 := Lib.hid (fun W => parse_t W z (short_of hi.lt))
  rw [← hT] at HP1
  have Hst : Hid (∀ W, Calls Tryd.prog 12 #[.agg #[.bool i.neg, .slice i.A i.k i.c], .int .i64 30] W fun e w' => e = .returned (.bool true) ∧ Below W.heap.size W w') := fun W => by
    have h1 := shortInt_any W i.neg i.A i.k i.c 30
    rw [decide_eq_true hi.le] at h1; exact h1
  have Htx : Hid (∀ W, IntD i z 30 W → Tab W → Calls Tryd.prog 10 #[.agg #[.bool i.neg, .slice i.A i.k i.c]] W fun e w' => e = .returned (.string T) ∧ Below W.heap.size W w') := fun W h1 h2 => by
    have h3 := text_i h1 (by omega) h2
    rw [hT]; exact h3
  have HPs := Lib.hid (fun W => parse_any s W (by omega))
  have HBa := Lib.hid ((by have := Blk.new w 25 #[.bool i.neg, .slice i.A i.k i.c]; simpa using this : Blk (w.alloc (.cells #[.bool i.neg, .slice i.A i.k i.c] 25)) (w.heap.size) 25 #[.bool i.neg, .slice i.A i.k i.c]))
  have Hi := Lib.hid ((hi.old).alloc (.cells #[.bool i.neg, .slice i.A i.k i.c] 25))
  have HT := Lib.hid ((htab.old).alloc (.cells #[.bool i.neg, .slice i.A i.k i.c] 25))
  have Hbel := Lib.hid (show Below w.heap.size w (w.alloc (.cells #[.bool i.neg, .slice i.A i.k i.c] 25)) from ((Below.refl w.heap.size w).alloc (by simp; try omega) (.cells #[.bool i.neg, .slice i.A i.k i.c] 25)))
  have Hsg2 := Lib.hid (show (-z).sign = 1 from Int.sign_eq_one_of_pos (by omega))
  obtain ⟨T2, hT2⟩ : ∃ T2 : ByteArray, T2 = ⟨(Lib.decDigits z.natAbs).toArray⟩ := ⟨_, rfl⟩
  have hTl : (intText (decide (z < 0)) z.natAbs) = 45 :: Lib.decDigits z.natAbs := by unfold intText; rw [if_neg (by omega), decide_eq_true hz]; rfl
  have hT1 : 1 ≤ T.size := by rw [hT, size_str, hTl]; simp
  have HE := Lib.hid (show T.extract 1 T.size = T2 from by
    rw [hT2, hT, hTl]
    apply ByteArray.ext
    apply Array.ext'
    rw [Lib.extract_to_end]; rfl)
  clear hTl
  obtain ⟨dd, hdd⟩ : ∃ dd, dd = d % 10 := ⟨_, rfl⟩
  have hd10 : dd < 10 := by omega
  have e1 : (d : Int) % 10 = (dd : Int) := by omega
  have e2 : (d : Int).tmod 10 = (dd : Int) := by rw [Int.tmod_eq_emod_of_nonneg (by omega)]; exact e1
  have e3 : IntKind.u8.wrap (dd : Int) = (dd : Int) := by simp [IntKind.wrap, IntKind.signed, IntKind.bits]; omega
  have e4 : IntKind.i64.wrap (dd : Int) = (dd : Int) := IntWalk.i64_in _ (by omega)
  have e5 : IntKind.u8.wrap ((dd : Int) + 1) = (dd : Int) + 1 := by simp [IntKind.wrap, IntKind.signed, IntKind.bits]; omega
  have HL3 := Lib.hid (show ((-z) * 10).natAbs < B64 ^ 31 from by
    have h5 := hi.lt
    rw [Int.natAbs_mul, Int.natAbs_neg, Nat.pow_succ]
    exact Nat.mul_lt_mul_of_lt_of_le h5 (show (10 : Int).natAbs ≤ B64 by decide) B64_pos)
  have HL4 := Lib.hid (show ((-z) * 10 + (dd : Nat)).natAbs < B64 ^ 32 from by
    have h5 := HL3.out
    have h6 : B64 ^ 31 * 2 ≤ B64 ^ 32 := by rw [Nat.pow_succ]; exact Nat.mul_le_mul_left _ (by decide)
    have h7 : B64 ^ 1 ≤ B64 ^ 31 := Nat.pow_le_pow_right B64_pos (by decide)
    have h8 : 10 ≤ B64 ^ 1 := by decide
    omega)
  have HLd := Lib.hid (show ((dd : Nat) : Int).natAbs < B64 ^ 1 from by simp only [B64]; omega)
  have hdg := dig10 dd hd10
  have Hmul := Lib.hid (fun (W : World) (a k : IV) (h1 : IntD a (-z) 30 W) (h2 : IntN k 10 W) => wmul_any W a k (-z) 10 30 1 (by omega) (by omega) h1 (h2.ofLt (by decide)))
  have Hadd := Lib.hid (fun (W : World) (a k : IV) (h1 : IntN a ((-z) * 10) W) (h2 : IntN k (dd : Nat) W) => wadd_any W a k ((-z) * 10) (dd : Nat) 31 1 (by omega) (by omega) (h1.ofLt HL3.out) (h2.ofLt HLd.out))
  have hTs : T2.size ≤ 700 := by
    rw [hT2, size_str]
    have h5 := dec_length (short_of hi.lt) (by decide)
    omega
  have Htx4 := Lib.hid (fun (W : World) (k : IV) (h1 : IntN k ((-z) * 10 + (dd : Nat)) W) (h2 : Tab W) => (show Calls Tryd.prog 10 #[.agg #[.bool k.neg, .slice k.A k.k k.c]] W fun e w' => e = .returned (.string (T2 ++ ⟨#[UInt8.ofNat (48 + dd)]⟩)) ∧ Below W.heap.size W w' from by
    have h5 := text_i (h1.ofLt (n := 32) HL4.out) (by omega) h2
    have h6 : intText (decide ((-z) * 10 + (dd : Nat) < 0)) ((-z) * 10 + (dd : Nat)).natAbs = Lib.decDigits z.natAbs ++ [UInt8.ofNat (48 + dd)] := by
      rw [decide_eq_false (by omega), show ((-z) * 10 + (dd : Nat)).natAbs = z.natAbs * 10 + dd by omega]
      exact text_more _ _ (by omega) hd10
    have h7 : T2 ++ (⟨#[UInt8.ofNat (48 + dd)]⟩ : ByteArray) = ⟨(Lib.decDigits z.natAbs ++ [UInt8.ofNat (48 + dd)]).toArray⟩ := by
      rw [hT2]
      
      apply ByteArray.ext
      simp [ByteArray.data_append]
    rw [h6] at h5
    rw [h7]; exact h5))
  obtain ⟨D, hD⟩ : ∃ D : ByteArray, D = ⟨#[UInt8.ofNat (48 + dd)]⟩ := ⟨_, rfl⟩
  have hDs : D.size = 1 := by rw [hD]; rfl
  rw [← hD] at hdg Htx4
  clear hD
  have hcat := fun (W : World) => run_string_add_sum (P := Tryd.prog) W T2 D (by omega)
  have hno : ¬ 9223372036854775807 < T2.size + 1 := by omega
  have hno2 : ¬ 9223372036854775807 ≤ T2.size := by omega
  have Hof1 := Lib.hid (fun W => wof_any W 10 (by decide) (by decide))
  have Hof2 := Lib.hid (fun W => wof_any W (dd : Nat) (by omega) (by omega))
  clear hdd
  clear hi htab hz hsg hs hT hT2
  generalize hR : parseN s.data.toList = R at *
  obtain ⟨re, rn, rv⟩ := R
  obtain rfl : re = 0 := hr
  have Htc := Lib.hid (text_back (s := s) (rn := rn) (rv := rv) hR)
  clear hR
  go_enter Tryd.func6, Tryd.ntmps6
  go_wp2_with fail
  refine (Hst.out _).mono ?_
  rintro e w1 ⟨rfl, hb1⟩
  replace HBa := Lib.hid (Blk.below (by exact HBa.out) hb1 (by exact HBa.out.lt))
  have sw1HBa0 : w1.cell? ⟨w.heap.size, 0, none⟩ = some (.bool i.neg) := HBa.out.cell 0
  have sw1HBa1 : w1.cell? ⟨w.heap.size, 1, none⟩ = some (.slice i.A i.k i.c) := HBa.out.cell 1
  replace Hi := Lib.hid (Rests.below (φ := IntD i z 30) (by first | exact Hi.out | exact Hi.out.drew) hb1)
  replace HT := Lib.hid (Rests.below (φ := Tab) (by first | exact HT.out | exact HT.out.drew) hb1)
  replace Hbel := Lib.hid (Below.after (by first | exact Hbel.out | exact Below.drew Hbel.out) hb1)
  clear hb1
  go_wp2_with fail
  refine (Htx.out _ (by first | exact Hi.out.now | exact Hi.out.drew.now) (by first | exact HT.out.now | exact HT.out.drew.now)).mono ?_
  rintro e w2 ⟨rfl, hb2⟩
  replace HBa := Lib.hid (Blk.below (by exact HBa.out) hb2 (by exact HBa.out.lt))
  have sw2HBa0 : w2.cell? ⟨w.heap.size, 0, none⟩ = some (.bool i.neg) := HBa.out.cell 0
  have sw2HBa1 : w2.cell? ⟨w.heap.size, 1, none⟩ = some (.slice i.A i.k i.c) := HBa.out.cell 1
  replace Hi := Lib.hid (Rests.below (φ := IntD i z 30) (by first | exact Hi.out | exact Hi.out.drew) hb2)
  replace HT := Lib.hid (Rests.below (φ := Tab) (by first | exact HT.out | exact HT.out.drew) hb2)
  replace Hbel := Lib.hid (Below.after (by first | exact Hbel.out | exact Below.drew Hbel.out) hb2)
  clear hb2
  go_wp2_with fail
  refine (HP1.out _).mono ?_
  rintro e w3 ⟨j, rfl, hj, hb3⟩
  replace HBa := Lib.hid (Blk.below (by exact HBa.out) hb3 (by exact HBa.out.lt))
  have sw3HBa0 : w3.cell? ⟨w.heap.size, 0, none⟩ = some (.bool i.neg) := HBa.out.cell 0
  have sw3HBa1 : w3.cell? ⟨w.heap.size, 1, none⟩ = some (.slice i.A i.k i.c) := HBa.out.cell 1
  replace Hi := Lib.hid (Rests.below (φ := IntD i z 30) (by first | exact Hi.out | exact Hi.out.drew) hb3)
  replace HT := Lib.hid (Rests.below (φ := Tab) (by first | exact HT.out | exact HT.out.drew) hb3)
  replace Hbel := Lib.hid (Below.after (by first | exact Hbel.out | exact Below.drew Hbel.out) hb3)
  have Hj := Lib.hid hj.old
  clear hj
  clear hb3
  replace HBa := Lib.hid (HBa.out.alloc (.cells #[.bool j.neg, .slice j.A j.k j.c] 25))
  replace Hi := Lib.hid (Hi.out.alloc (.cells #[.bool j.neg, .slice j.A j.k j.c] 25))
  replace HT := Lib.hid (HT.out.alloc (.cells #[.bool j.neg, .slice j.A j.k j.c] 25))
  replace Hj := Lib.hid (Hj.out.alloc (.cells #[.bool j.neg, .slice j.A j.k j.c] 25))
  replace Hbel := Lib.hid (Hbel.out.alloc Hbel.out.size (.cells #[.bool j.neg, .slice j.A j.k j.c] 25))
  have HBb := Lib.hid (Blk.new w3 25 #[.bool j.neg, .slice j.A j.k j.c])
  have pHBa0 : World.cell? _ ⟨w.heap.size, 0, none⟩ = some (.bool i.neg) := HBa.out.cell 0
  have pHBa1 : World.cell? _ ⟨w.heap.size, 1, none⟩ = some (.slice i.A i.k i.c) := HBa.out.cell 1
  have pHBb0 : World.cell? _ ⟨w3.heap.size, 0, none⟩ = some (.bool j.neg) := HBb.out.cell 0
  have pHBb1 : World.cell? _ ⟨w3.heap.size, 1, none⟩ = some (.slice j.A j.k j.c) := HBb.out.cell 1
  have n34 : w3.heap.size ≠ w.heap.size := by have := HBa.out.lt; have h2 := Hbel.out.size; have h3 := sw3HBa0; have h4 := World.block_lt_of_cell? w3 _ sw3HBa0; simp at h4; omega
  go_wp2_with fail
  go_region_held3 (fun W => W.cell? ⟨w.heap.size, 0, none⟩ = some (.bool i.neg) ∧ W.cell? ⟨w.heap.size, 1, none⟩ = some (.slice i.A i.k i.c) ∧ W.cell? ⟨w3.heap.size, 0, none⟩ = some (.bool j.neg) ∧ W.cell? ⟨w3.heap.size, 1, none⟩ = some (.slice j.A j.k j.c)) (go_keep)
    (first
      | (go_at_call 22; go_must (refine (wnorm_any _ i z 30 (by omega) (by first | exact Hi.out.now | exact Hi.out.drew.now)).mono ?_; rintro e w4 ⟨k, rfl, hk, hb4⟩; replace HBa := Lib.hid (Blk.below (by exact HBa.out) hb4 (by exact HBa.out.lt)); have sw4HBa0 : w4.cell? ⟨w.heap.size, 0, none⟩ = some (.bool i.neg) := HBa.out.cell 0; have sw4HBa1 : w4.cell? ⟨w.heap.size, 1, none⟩ = some (.slice i.A i.k i.c) := HBa.out.cell 1; replace HBb := Lib.hid (Blk.below (by exact HBb.out) hb4 (by exact HBb.out.lt)); have sw4HBb0 : w4.cell? ⟨w3.heap.size, 0, none⟩ = some (.bool j.neg) := HBb.out.cell 0; have sw4HBb1 : w4.cell? ⟨w3.heap.size, 1, none⟩ = some (.slice j.A j.k j.c) := HBb.out.cell 1; replace Hi := Lib.hid (Rests.below (φ := IntD i z 30) (by first | exact Hi.out | exact Hi.out.drew) hb4); replace HT := Lib.hid (Rests.below (φ := Tab) (by first | exact HT.out | exact HT.out.drew) hb4); replace Hj := Lib.hid (Rests.below (φ := IntN j z) (by first | exact Hj.out | exact Hj.out.drew) hb4); replace Hbel := Lib.hid (Below.after (by first | exact Hbel.out | exact Below.drew Hbel.out) hb4); have Hk := Lib.hid hk; clear hk; clear hb4))
      | (go_at_call 16; go_must (refine (sameInt_n (i := j) (j := k) (z := z) (by first | exact Hj.out.now | exact Hj.out.drew.now) (by first | exact Hk.out.now | exact Hk.out.drew.now) Hsh.out).mono ?_; rintro e w5 ⟨rfl, hb5⟩; replace HBa := Lib.hid (Blk.below (by exact HBa.out) hb5 (by exact HBa.out.lt)); have sw5HBa0 : w5.cell? ⟨w.heap.size, 0, none⟩ = some (.bool i.neg) := HBa.out.cell 0; have sw5HBa1 : w5.cell? ⟨w.heap.size, 1, none⟩ = some (.slice i.A i.k i.c) := HBa.out.cell 1; replace HBb := Lib.hid (Blk.below (by exact HBb.out) hb5 (by exact HBb.out.lt)); have sw5HBb0 : w5.cell? ⟨w3.heap.size, 0, none⟩ = some (.bool j.neg) := HBb.out.cell 0; have sw5HBb1 : w5.cell? ⟨w3.heap.size, 1, none⟩ = some (.slice j.A j.k j.c) := HBb.out.cell 1; replace Hi := Lib.hid (Rests.below (φ := IntD i z 30) (by first | exact Hi.out | exact Hi.out.drew) hb5); replace HT := Lib.hid (Rests.below (φ := Tab) (by first | exact HT.out | exact HT.out.drew) hb5); replace Hbel := Lib.hid (Below.after (by first | exact Hbel.out | exact Below.drew Hbel.out) hb5); clear hb5)))
  go_wp2_with fail
  refine (HPs.out _).mono ?_
  rintro e w6 ⟨Ac, cc, rfl, hcc, hrc, hb6⟩
  replace HBa := Lib.hid (Blk.below (by exact HBa.out) hb6 (by exact HBa.out.lt))
  have sw6HBa0 : w6.cell? ⟨w.heap.size, 0, none⟩ = some (.bool i.neg) := HBa.out.cell 0
  have sw6HBa1 : w6.cell? ⟨w.heap.size, 1, none⟩ = some (.slice i.A i.k i.c) := HBa.out.cell 1
  replace Hi := Lib.hid (Rests.below (φ := IntD i z 30) (by first | exact Hi.out | exact Hi.out.drew) hb6)
  replace HT := Lib.hid (Rests.below (φ := Tab) (by first | exact HT.out | exact HT.out.drew) hb6)
  replace Hbel := Lib.hid (Below.after (by first | exact Hbel.out | exact Below.drew Hbel.out) hb6)
  have Hrc := Lib.hid (rests_rd (F := (· < w6.heap.size)) hrc (fun k hk => hrc.lt k hk))
  clear hrc hcc
  clear hb6
  replace HBa := Lib.hid (HBa.out.alloc (.cells #[.bool rn, .slice Ac (digs B64 rv).length cc] 25))
  replace Hi := Lib.hid (Hi.out.alloc (.cells #[.bool rn, .slice Ac (digs B64 rv).length cc] 25))
  replace HT := Lib.hid (HT.out.alloc (.cells #[.bool rn, .slice Ac (digs B64 rv).length cc] 25))
  replace Hrc := Lib.hid (Hrc.out.alloc (.cells #[.bool rn, .slice Ac (digs B64 rv).length cc] 25))
  replace Hbel := Lib.hid (Hbel.out.alloc Hbel.out.size (.cells #[.bool rn, .slice Ac (digs B64 rv).length cc] 25))
  have HBc := Lib.hid (Blk.new w6 25 #[.bool rn, .slice Ac (digs B64 rv).length cc])
  have rHBa0 : World.cell? _ ⟨w.heap.size, 0, none⟩ = some (.bool i.neg) := HBa.out.cell 0
  have rHBa1 : World.cell? _ ⟨w.heap.size, 1, none⟩ = some (.slice i.A i.k i.c) := HBa.out.cell 1
  have rHBc0 : World.cell? _ ⟨w6.heap.size, 0, none⟩ = some (.bool rn) := HBc.out.cell 0
  have rHBc1 : World.cell? _ ⟨w6.heap.size, 1, none⟩ = some (.slice Ac (digs B64 rv).length cc) := HBc.out.cell 1
  go_wp2_with fail
  refine (Htc.out _ Ac cc (by first | exact Hrc.out.now | exact Hrc.out.drew.now) (by first | exact HT.out.now | exact HT.out.drew.now)).mono ?_
  rintro e w7 ⟨rfl, hb7⟩
  replace HBa := Lib.hid (Blk.below (by exact HBa.out) hb7 (by exact HBa.out.lt))
  have sw7HBa0 : w7.cell? ⟨w.heap.size, 0, none⟩ = some (.bool i.neg) := HBa.out.cell 0
  have sw7HBa1 : w7.cell? ⟨w.heap.size, 1, none⟩ = some (.slice i.A i.k i.c) := HBa.out.cell 1
  replace Hi := Lib.hid (Rests.below (φ := IntD i z 30) (by first | exact Hi.out | exact Hi.out.drew) hb7)
  replace HT := Lib.hid (Rests.below (φ := Tab) (by first | exact HT.out | exact HT.out.drew) hb7)
  replace Hbel := Lib.hid (Below.after (by first | exact Hbel.out | exact Below.drew Hbel.out) hb7)
  clear hb7
  go_wp2_with fail
  refine (wsign_any _ i z 30 (by omega) (by first | exact Hi.out.now | exact Hi.out.drew.now)).mono ?_
  rintro e w8 ⟨rfl, hb8⟩
  replace HBa := Lib.hid (Blk.below (by exact HBa.out) hb8 (by exact HBa.out.lt))
  have sw8HBa0 : w8.cell? ⟨w.heap.size, 0, none⟩ = some (.bool i.neg) := HBa.out.cell 0
  have sw8HBa1 : w8.cell? ⟨w.heap.size, 1, none⟩ = some (.slice i.A i.k i.c) := HBa.out.cell 1
  replace Hi := Lib.hid (Rests.below (φ := IntD i z 30) (by first | exact Hi.out | exact Hi.out.drew) hb8)
  replace HT := Lib.hid (Rests.below (φ := Tab) (by first | exact HT.out | exact HT.out.drew) hb8)
  replace Hbel := Lib.hid (Below.after (by first | exact Hbel.out | exact Below.drew Hbel.out) hb8)
  clear hb8
  rw [Hsg.out]
  go_wp2_with fail
  refine (wneg_any _ i z 30 (by omega) (by first | exact Hi.out.now | exact Hi.out.drew.now)).mono ?_
  rintro e w9 ⟨i2, rfl, hi2, hb9⟩
  have hgl := HBa.out.lt
  replace HBa := Lib.hid (Blk.below (by exact HBa.out) hb9 (by exact HBa.out.lt))
  have sw9HBa0 : w9.cell? ⟨w.heap.size, 0, none⟩ = some (.bool i.neg) := HBa.out.cell 0
  have sw9HBa1 : w9.cell? ⟨w.heap.size, 1, none⟩ = some (.slice i.A i.k i.c) := HBa.out.cell 1
  replace HT := Lib.hid (Rests.below (φ := Tab) (by first | exact HT.out | exact HT.out.drew) hb9)
  replace Hbel := Lib.hid (Below.after (by first | exact Hbel.out | exact Below.drew Hbel.out) hb9)
  have fa0 : w9.frozen? ⟨w.heap.size, 0, none⟩ = false := HBa.out.frozen 0
  have fa1 : w9.frozen? ⟨w.heap.size, 1, none⟩ = false := HBa.out.frozen 1
  have Hi2 := Lib.hid (hi2.imp (ψ := IntD i2 (-z) 30) (fun W hW => hW.ofLt (by rw [Int.natAbs_neg] <;> exact Hlt.out)) |>.mono (G := (w.heap.size + 1 ≤ ·)) (fun b hb => Nat.le_trans hgl hb))
  clear hi2 hgl
  clear hb9
  replace HBa := Lib.hid (((HBa.out).set_ 0 (.bool i2.neg)).set_ 1 (.slice i2.A i2.k i2.c))
  replace HT := Lib.hid (((HT.out).set (a := ⟨w.heap.size, 0, none⟩) (by simp) (.bool i2.neg)).set (a := ⟨w.heap.size, 1, none⟩) (by simp) (.slice i2.A i2.k i2.c))
  replace Hi2 := Lib.hid (((Hi2.out).set (a := ⟨w.heap.size, 0, none⟩) (by simp) (.bool i2.neg)).set (a := ⟨w.heap.size, 1, none⟩) (by simp) (.slice i2.A i2.k i2.c))
  replace Hbel := Lib.hid (((Hbel.out).setCell (p := ⟨w.heap.size, 0, none⟩) (by simp) (.bool i2.neg)).setCell (p := ⟨w.heap.size, 1, none⟩) (by simp) (.slice i2.A i2.k i2.c))
  have vHBa0 : World.cell? _ ⟨w.heap.size, 0, none⟩ = some (.bool i2.neg) := HBa.out.cell 0
  have vHBa1 : World.cell? _ ⟨w.heap.size, 1, none⟩ = some (.slice i2.A i2.k i2.c) := HBa.out.cell 1
  go_wp2_with fail
  rw [HE.out]
  refine (wsign_any _ i2 (-z) 30 (by omega) (by first | exact Hi2.out.now | exact Hi2.out.drew.now)).mono ?_
  rintro e w10 ⟨rfl, hb10⟩
  replace HBa := Lib.hid (Blk.below (by exact HBa.out) hb10 (by exact HBa.out.lt))
  have sw10HBa0 : w10.cell? ⟨w.heap.size, 0, none⟩ = some (.bool i2.neg) := HBa.out.cell 0
  have sw10HBa1 : w10.cell? ⟨w.heap.size, 1, none⟩ = some (.slice i2.A i2.k i2.c) := HBa.out.cell 1
  replace HT := Lib.hid (Rests.below (φ := Tab) (by first | exact HT.out | exact HT.out.drew) hb10)
  replace Hi2 := Lib.hid (Rests.below (φ := IntD i2 (-z) 30) (by first | exact Hi2.out | exact Hi2.out.drew) hb10)
  replace Hbel := Lib.hid (Below.after (by first | exact Hbel.out | exact Below.drew Hbel.out) hb10)
  clear hb10
  rw [Hsg2.out]
  have lw10 : w.heap.size < w10.heap.size := HBa.out.lt
  have zw10 : w10.heap.size ≠ w.heap.size := Nat.ne_of_gt HBa.out.lt
  have yw10 : w.heap.size ≠ w10.heap.size := Nat.ne_of_lt HBa.out.lt
  go_wp2_with fail
  go_region_held3 (fun W => W.cell? ⟨w.heap.size, 0, none⟩ = some (.bool i2.neg) ∧ W.cell? ⟨w.heap.size, 1, none⟩ = some (.slice i2.A i2.k i2.c)) (go_keep)
    (first
      | (go_at_call_of 27 (Value.int .i64 10); go_must (refine (Hof1.out _).mono ?_; rintro e w12 ⟨k1, rfl, hk1, hb12⟩; (first | (have HBm := Lib.hid (Blk.below (Blk.new _ 25 #[.bool false, .slice none 0 0]) hb12 (by simp))) | (have HBm := Lib.hid (Blk.below (show Blk (World.drew (World.alloc _ (.cells #[.bool false, .slice none 0 0] 25))) _ 25 #[.bool false, .slice none 0 0] from Blk.new _ 25 #[.bool false, .slice none 0 0]) hb12 (by simp))) | (replace HBm := Lib.hid (Blk.below (by exact HBm.out) hb12 (by exact HBm.out.lt))) | skip); (try (have mw120 := HBm.out.cell 0; have mw121 := HBm.out.cell 1; have nw120 := HBm.out.frozen 0; have nw121 := HBm.out.frozen 1; simp at mw120 mw121 nw120 nw121)); replace HBa := Lib.hid (Blk.below (by first | exact HBa.out | exact HBa.out.alloc _) hb12 (by first | exact HBa.out.lt | exact (HBa.out.alloc _).lt)); have sw12HBa0 : w12.cell? ⟨w.heap.size, 0, none⟩ = some (.bool i2.neg) := HBa.out.cell 0; have sw12HBa1 : w12.cell? ⟨w.heap.size, 1, none⟩ = some (.slice i2.A i2.k i2.c) := HBa.out.cell 1; replace HT := Lib.hid (Rests.below (φ := Tab) (by first | exact HT.out | exact HT.out.drew | exact HT.out.alloc _ | exact HT.out.drew.alloc _) hb12); replace Hi2 := Lib.hid (Rests.below (φ := IntD i2 (-z) 30) (by first | exact Hi2.out | exact Hi2.out.drew | exact Hi2.out.alloc _ | exact Hi2.out.drew.alloc _) hb12); replace Hbel := Lib.hid (Below.after (by first | exact Hbel.out | exact Below.drew Hbel.out | exact Hbel.out.alloc Hbel.out.size _ | exact (Below.drew Hbel.out).alloc Hbel.out.size _) hb12); have Hk1 := Lib.hid hk1; clear hk1; (try replace Hk2 := Lib.hid (Rests.below (φ := IntN k2 (dd : Nat)) (by first | exact Hk2.out | exact Hk2.out.drew | exact Hk2.out.alloc _ | exact Hk2.out.drew.alloc _) hb12)); (try replace Hk3 := Lib.hid (Rests.below (φ := IntN k3 ((-z) * 10)) (by first | exact Hk3.out | exact Hk3.out.drew | exact Hk3.out.alloc _ | exact Hk3.out.drew.alloc _) hb12)); have lw12 : w.heap.size < w12.heap.size := HBa.out.lt; have zw12 : w12.heap.size ≠ w.heap.size := Nat.ne_of_gt HBa.out.lt; have yw12 : w.heap.size ≠ w12.heap.size := Nat.ne_of_lt HBa.out.lt; clear hb12))
      | (go_at_call_of 27 (Value.int .i64 (dd : Int)); go_must (refine (Hof2.out _).mono ?_; rintro e w13 ⟨k2, rfl, hk2, hb13⟩; (first | (have HBm := Lib.hid (Blk.below (Blk.new _ 25 #[.bool false, .slice none 0 0]) hb13 (by simp))) | (have HBm := Lib.hid (Blk.below (show Blk (World.drew (World.alloc _ (.cells #[.bool false, .slice none 0 0] 25))) _ 25 #[.bool false, .slice none 0 0] from Blk.new _ 25 #[.bool false, .slice none 0 0]) hb13 (by simp))) | (replace HBm := Lib.hid (Blk.below (by exact HBm.out) hb13 (by exact HBm.out.lt))) | skip); (try (have mw130 := HBm.out.cell 0; have mw131 := HBm.out.cell 1; have nw130 := HBm.out.frozen 0; have nw131 := HBm.out.frozen 1; simp at mw130 mw131 nw130 nw131)); replace HBa := Lib.hid (Blk.below (by first | exact HBa.out | exact HBa.out.alloc _) hb13 (by first | exact HBa.out.lt | exact (HBa.out.alloc _).lt)); have sw13HBa0 : w13.cell? ⟨w.heap.size, 0, none⟩ = some (.bool i2.neg) := HBa.out.cell 0; have sw13HBa1 : w13.cell? ⟨w.heap.size, 1, none⟩ = some (.slice i2.A i2.k i2.c) := HBa.out.cell 1; replace HT := Lib.hid (Rests.below (φ := Tab) (by first | exact HT.out | exact HT.out.drew | exact HT.out.alloc _ | exact HT.out.drew.alloc _) hb13); replace Hi2 := Lib.hid (Rests.below (φ := IntD i2 (-z) 30) (by first | exact Hi2.out | exact Hi2.out.drew | exact Hi2.out.alloc _ | exact Hi2.out.drew.alloc _) hb13); replace Hbel := Lib.hid (Below.after (by first | exact Hbel.out | exact Below.drew Hbel.out | exact Hbel.out.alloc Hbel.out.size _ | exact (Below.drew Hbel.out).alloc Hbel.out.size _) hb13); have Hk2 := Lib.hid hk2; clear hk2; (try replace Hk1 := Lib.hid (Rests.below (φ := IntN k1 10) (by first | exact Hk1.out | exact Hk1.out.drew | exact Hk1.out.alloc _ | exact Hk1.out.drew.alloc _) hb13)); (try replace Hk3 := Lib.hid (Rests.below (φ := IntN k3 ((-z) * 10)) (by first | exact Hk3.out | exact Hk3.out.drew | exact Hk3.out.alloc _ | exact Hk3.out.drew.alloc _) hb13)); have lw13 : w.heap.size < w13.heap.size := HBa.out.lt; have zw13 : w13.heap.size ≠ w.heap.size := Nat.ne_of_gt HBa.out.lt; have yw13 : w.heap.size ≠ w13.heap.size := Nat.ne_of_lt HBa.out.lt; clear hb13))
      | (go_at_call 26; go_must (refine (Hmul.out _ i2 k1 (by first | exact Hi2.out.now | exact Hi2.out.drew.now | exact (Hi2.out.alloc _).now | exact (Hi2.out.drew.alloc _).now) (by first | exact Hk1.out.now | exact Hk1.out.drew.now | exact (Hk1.out.alloc _).now | exact (Hk1.out.drew.alloc _).now)).mono ?_; rintro e w14 ⟨k3, rfl, hk3, hb14⟩; (first | (have HBm := Lib.hid (Blk.below (Blk.new _ 25 #[.bool false, .slice none 0 0]) hb14 (by simp))) | (have HBm := Lib.hid (Blk.below (show Blk (World.drew (World.alloc _ (.cells #[.bool false, .slice none 0 0] 25))) _ 25 #[.bool false, .slice none 0 0] from Blk.new _ 25 #[.bool false, .slice none 0 0]) hb14 (by simp))) | (replace HBm := Lib.hid (Blk.below (by exact HBm.out) hb14 (by exact HBm.out.lt))) | skip); (try (have mw140 := HBm.out.cell 0; have mw141 := HBm.out.cell 1; have nw140 := HBm.out.frozen 0; have nw141 := HBm.out.frozen 1; simp at mw140 mw141 nw140 nw141)); replace HBa := Lib.hid (Blk.below (by first | exact HBa.out | exact HBa.out.alloc _) hb14 (by first | exact HBa.out.lt | exact (HBa.out.alloc _).lt)); have sw14HBa0 : w14.cell? ⟨w.heap.size, 0, none⟩ = some (.bool i2.neg) := HBa.out.cell 0; have sw14HBa1 : w14.cell? ⟨w.heap.size, 1, none⟩ = some (.slice i2.A i2.k i2.c) := HBa.out.cell 1; replace HT := Lib.hid (Rests.below (φ := Tab) (by first | exact HT.out | exact HT.out.drew | exact HT.out.alloc _ | exact HT.out.drew.alloc _) hb14); replace Hi2 := Lib.hid (Rests.below (φ := IntD i2 (-z) 30) (by first | exact Hi2.out | exact Hi2.out.drew | exact Hi2.out.alloc _ | exact Hi2.out.drew.alloc _) hb14); replace Hbel := Lib.hid (Below.after (by first | exact Hbel.out | exact Below.drew Hbel.out | exact Hbel.out.alloc Hbel.out.size _ | exact (Below.drew Hbel.out).alloc Hbel.out.size _) hb14); have Hk3 := Lib.hid hk3; clear hk3; (try replace Hk1 := Lib.hid (Rests.below (φ := IntN k1 10) (by first | exact Hk1.out | exact Hk1.out.drew | exact Hk1.out.alloc _ | exact Hk1.out.drew.alloc _) hb14)); (try replace Hk2 := Lib.hid (Rests.below (φ := IntN k2 (dd : Nat)) (by first | exact Hk2.out | exact Hk2.out.drew | exact Hk2.out.alloc _ | exact Hk2.out.drew.alloc _) hb14)); have lw14 : w.heap.size < w14.heap.size := HBa.out.lt; have zw14 : w14.heap.size ≠ w.heap.size := Nat.ne_of_gt HBa.out.lt; have yw14 : w.heap.size ≠ w14.heap.size := Nat.ne_of_lt HBa.out.lt; clear hb14))
      | (go_at_call 25; go_must (refine (Hadd.out _ k3 k2 (by first | exact Hk3.out.now | exact Hk3.out.drew.now | exact (Hk3.out.alloc _).now | exact (Hk3.out.drew.alloc _).now) (by first | exact Hk2.out.now | exact Hk2.out.drew.now | exact (Hk2.out.alloc _).now | exact (Hk2.out.drew.alloc _).now)).mono ?_; rintro e w15 ⟨k4, rfl, hk4, hb15⟩; (try (have hgm := HBm.out.lt)); (first | (have HBm := Lib.hid (Blk.below (Blk.new _ 25 #[.bool false, .slice none 0 0]) hb15 (by simp))) | (have HBm := Lib.hid (Blk.below (show Blk (World.drew (World.alloc _ (.cells #[.bool false, .slice none 0 0] 25))) _ 25 #[.bool false, .slice none 0 0] from Blk.new _ 25 #[.bool false, .slice none 0 0]) hb15 (by simp))) | (replace HBm := Lib.hid (Blk.below (by exact HBm.out) hb15 (by exact HBm.out.lt))) | skip); (try (have mw150 := HBm.out.cell 0; have mw151 := HBm.out.cell 1; have nw150 := HBm.out.frozen 0; have nw151 := HBm.out.frozen 1; simp at mw150 mw151 nw150 nw151)); replace HBa := Lib.hid (Blk.below (by first | exact HBa.out | exact HBa.out.alloc _) hb15 (by first | exact HBa.out.lt | exact (HBa.out.alloc _).lt)); have sw15HBa0 : w15.cell? ⟨w.heap.size, 0, none⟩ = some (.bool i2.neg) := HBa.out.cell 0; have sw15HBa1 : w15.cell? ⟨w.heap.size, 1, none⟩ = some (.slice i2.A i2.k i2.c) := HBa.out.cell 1; replace HT := Lib.hid (Rests.below (φ := Tab) (by first | exact HT.out | exact HT.out.drew | exact HT.out.alloc _ | exact HT.out.drew.alloc _) hb15); replace Hi2 := Lib.hid (Rests.below (φ := IntD i2 (-z) 30) (by first | exact Hi2.out | exact Hi2.out.drew | exact Hi2.out.alloc _ | exact Hi2.out.drew.alloc _) hb15); replace Hbel := Lib.hid (Below.after (by first | exact Hbel.out | exact Below.drew Hbel.out | exact Hbel.out.alloc Hbel.out.size _ | exact (Below.drew Hbel.out).alloc Hbel.out.size _) hb15); (first | (have Hk4 := Lib.hid (hk4.mono (fun b hb => Nat.lt_of_lt_of_le hgm hb))) | (have Hk4 := Lib.hid (hk4.mono (fun b hb => Nat.lt_of_lt_of_le (alloc_lt _ _) hb))) | (have Hk4 := Lib.hid hk4)); clear hk4; (try replace Hk1 := Lib.hid (Rests.below (φ := IntN k1 10) (by first | exact Hk1.out | exact Hk1.out.drew | exact Hk1.out.alloc _ | exact Hk1.out.drew.alloc _) hb15)); (try replace Hk2 := Lib.hid (Rests.below (φ := IntN k2 (dd : Nat)) (by first | exact Hk2.out | exact Hk2.out.drew | exact Hk2.out.alloc _ | exact Hk2.out.drew.alloc _) hb15)); (try replace Hk3 := Lib.hid (Rests.below (φ := IntN k3 ((-z) * 10)) (by first | exact Hk3.out | exact Hk3.out.drew | exact Hk3.out.alloc _ | exact Hk3.out.drew.alloc _) hb15)); have lw15 : w.heap.size < w15.heap.size := HBa.out.lt; have zw15 : w15.heap.size ≠ w.heap.size := Nat.ne_of_gt HBa.out.lt; have yw15 : w.heap.size ≠ w15.heap.size := Nat.ne_of_lt HBa.out.lt; clear hb15)))
  all_goals
    go_wp2_with fail
    first
      | (have HBg := Lib.hid (show Blk ((w15.setCell ⟨w13.heap.size, 0, none⟩ (.bool k4.neg)).setCell ⟨w13.heap.size, 1, none⟩ (.slice k4.A k4.k k4.c)) w13.heap.size 25 #[.bool k4.neg, .slice k4.A k4.k k4.c] from (HBm.out.set_ 0 (.bool k4.neg)).set_ 1 (.slice k4.A k4.k k4.c)); have Hkn := Lib.hid ((Hk4.out.set (a := ⟨w13.heap.size, 0, none⟩) (Nat.lt_irrefl _) (.bool k4.neg)).set (a := ⟨w13.heap.size, 1, none⟩) (Nat.lt_irrefl _) (.slice k4.A k4.k k4.c)); replace HT := Lib.hid ((HT.out.set (a := ⟨w13.heap.size, 0, none⟩) (Nat.not_lt.2 (Nat.le_of_lt lw13)) (.bool k4.neg)).set (a := ⟨w13.heap.size, 1, none⟩) (Nat.not_lt.2 (Nat.le_of_lt lw13)) (.slice k4.A k4.k k4.c)); replace Hbel := Lib.hid ((Hbel.out.setCell (p := ⟨w13.heap.size, 0, none⟩) (Nat.le_of_lt lw13) (.bool k4.neg)).setCell (p := ⟨w13.heap.size, 1, none⟩) (Nat.le_of_lt lw13) (.slice k4.A k4.k k4.c)); generalize hWW : ((w15.setCell ⟨w13.heap.size, 0, none⟩ (.bool k4.neg)).setCell ⟨w13.heap.size, 1, none⟩ (.slice k4.A k4.k k4.c)) = W at *; generalize hgg : w13.heap.size = g at *; clear hWW hgg)
      | (have HBg := Lib.hid (show Blk ((w15.setCell ⟨w14.heap.size, 0, none⟩ (.bool k4.neg)).setCell ⟨w14.heap.size, 1, none⟩ (.slice k4.A k4.k k4.c)) w14.heap.size 25 #[.bool k4.neg, .slice k4.A k4.k k4.c] from (HBm.out.set_ 0 (.bool k4.neg)).set_ 1 (.slice k4.A k4.k k4.c)); have Hkn := Lib.hid ((Hk4.out.set (a := ⟨w14.heap.size, 0, none⟩) (Nat.lt_irrefl _) (.bool k4.neg)).set (a := ⟨w14.heap.size, 1, none⟩) (Nat.lt_irrefl _) (.slice k4.A k4.k k4.c)); replace HT := Lib.hid ((HT.out.set (a := ⟨w14.heap.size, 0, none⟩) (Nat.not_lt.2 (Nat.le_of_lt lw14)) (.bool k4.neg)).set (a := ⟨w14.heap.size, 1, none⟩) (Nat.not_lt.2 (Nat.le_of_lt lw14)) (.slice k4.A k4.k k4.c)); replace Hbel := Lib.hid ((Hbel.out.setCell (p := ⟨w14.heap.size, 0, none⟩) (Nat.le_of_lt lw14) (.bool k4.neg)).setCell (p := ⟨w14.heap.size, 1, none⟩) (Nat.le_of_lt lw14) (.slice k4.A k4.k k4.c)); generalize hWW : ((w15.setCell ⟨w14.heap.size, 0, none⟩ (.bool k4.neg)).setCell ⟨w14.heap.size, 1, none⟩ (.slice k4.A k4.k k4.c)) = W at *; generalize hgg : w14.heap.size = g at *; clear hWW hgg)
      | (have HBg := Lib.hid (show Blk ((w15.setCell ⟨w12.heap.size, 0, none⟩ (.bool k4.neg)).setCell ⟨w12.heap.size, 1, none⟩ (.slice k4.A k4.k k4.c)) w12.heap.size 25 #[.bool k4.neg, .slice k4.A k4.k k4.c] from (HBm.out.set_ 0 (.bool k4.neg)).set_ 1 (.slice k4.A k4.k k4.c)); have Hkn := Lib.hid ((Hk4.out.set (a := ⟨w12.heap.size, 0, none⟩) (Nat.lt_irrefl _) (.bool k4.neg)).set (a := ⟨w12.heap.size, 1, none⟩) (Nat.lt_irrefl _) (.slice k4.A k4.k k4.c)); replace HT := Lib.hid ((HT.out.set (a := ⟨w12.heap.size, 0, none⟩) (Nat.not_lt.2 (Nat.le_of_lt lw12)) (.bool k4.neg)).set (a := ⟨w12.heap.size, 1, none⟩) (Nat.not_lt.2 (Nat.le_of_lt lw12)) (.slice k4.A k4.k k4.c)); replace Hbel := Lib.hid ((Hbel.out.setCell (p := ⟨w12.heap.size, 0, none⟩) (Nat.le_of_lt lw12) (.bool k4.neg)).setCell (p := ⟨w12.heap.size, 1, none⟩) (Nat.le_of_lt lw12) (.slice k4.A k4.k k4.c)); generalize hWW : ((w15.setCell ⟨w12.heap.size, 0, none⟩ (.bool k4.neg)).setCell ⟨w12.heap.size, 1, none⟩ (.slice k4.A k4.k k4.c)) = W at *; generalize hgg : w12.heap.size = g at *; clear hWW hgg)
      | (have HBg := Lib.hid (show Blk ((w15.setCell ⟨w10.heap.size, 0, none⟩ (.bool k4.neg)).setCell ⟨w10.heap.size, 1, none⟩ (.slice k4.A k4.k k4.c)) w10.heap.size 25 #[.bool k4.neg, .slice k4.A k4.k k4.c] from (HBm.out.set_ 0 (.bool k4.neg)).set_ 1 (.slice k4.A k4.k k4.c)); have Hkn := Lib.hid ((Hk4.out.set (a := ⟨w10.heap.size, 0, none⟩) (Nat.lt_irrefl _) (.bool k4.neg)).set (a := ⟨w10.heap.size, 1, none⟩) (Nat.lt_irrefl _) (.slice k4.A k4.k k4.c)); replace HT := Lib.hid ((HT.out.set (a := ⟨w10.heap.size, 0, none⟩) (Nat.not_lt.2 (Nat.le_of_lt lw10)) (.bool k4.neg)).set (a := ⟨w10.heap.size, 1, none⟩) (Nat.not_lt.2 (Nat.le_of_lt lw10)) (.slice k4.A k4.k k4.c)); replace Hbel := Lib.hid ((Hbel.out.setCell (p := ⟨w10.heap.size, 0, none⟩) (Nat.le_of_lt lw10) (.bool k4.neg)).setCell (p := ⟨w10.heap.size, 1, none⟩) (Nat.le_of_lt lw10) (.slice k4.A k4.k k4.c)); generalize hWW : ((w15.setCell ⟨w10.heap.size, 0, none⟩ (.bool k4.neg)).setCell ⟨w10.heap.size, 1, none⟩ (.slice k4.A k4.k k4.c)) = W at *; generalize hgg : w10.heap.size = g at *; clear hWW hgg)
      | (have HBg := Lib.hid (Blk.new w15 25 #[.bool k4.neg, .slice k4.A k4.k k4.c]); have Hkn := Lib.hid (Hk4.out.alloc (.cells #[.bool k4.neg, .slice k4.A k4.k k4.c] 25)); replace HT := Lib.hid (HT.out.alloc (.cells #[.bool k4.neg, .slice k4.A k4.k k4.c] 25)); replace Hbel := Lib.hid (Hbel.out.alloc Hbel.out.size (.cells #[.bool k4.neg, .slice k4.A k4.k k4.c] 25)); generalize hWW : (w15.alloc (.cells #[.bool k4.neg, .slice k4.A k4.k k4.c] 25)) = W at *; generalize hgg : w15.heap.size = g at *; clear hWW hgg)
    have c0 : W.cell? ⟨g, 0, none⟩ = some (.bool k4.neg) := HBg.out.cell 0
    have c1 : W.cell? ⟨g, 1, none⟩ = some (.slice k4.A k4.k k4.c) := HBg.out.cell 1
    go_wp2_with fail
    go_region_held3 (fun W => W.cell? ⟨g, 0, none⟩ = some (.bool k4.neg) ∧ W.cell? ⟨g, 1, none⟩ = some (.slice k4.A k4.k k4.c)) (go_keep)
      (first
        | (go_at_call 10; go_must (refine (Htx4.out _ k4 (by first | exact Hkn.out.now | exact Hkn.out.drew.now | exact (Hkn.out.alloc _).now | exact (Hkn.out.drew.alloc _).now) (by first | exact HT.out.now | exact HT.out.drew.now | exact (HT.out.alloc _).now | exact (HT.out.drew.alloc _).now)).mono ?_; rintro e w16 ⟨rfl, hb16⟩; replace HBg := Lib.hid (Blk.below (by exact HBg.out) hb16 (by exact HBg.out.lt)); have sw16HBg0 : w16.cell? ⟨g, 0, none⟩ = some (.bool k4.neg) := HBg.out.cell 0; have sw16HBg1 : w16.cell? ⟨g, 1, none⟩ = some (.slice k4.A k4.k k4.c) := HBg.out.cell 1; replace HT := Lib.hid (Rests.below (φ := Tab) (by first | exact HT.out | exact HT.out.drew) hb16); replace Hbel := Lib.hid (Below.after (by first | exact Hbel.out | exact Below.drew Hbel.out) hb16); clear hb16))
        | (go_at_call 11; go_must (refine (awake_any _ (by first | exact HT.out.now | exact HT.out.drew.now | exact (HT.out.alloc _).now | exact (HT.out.drew.alloc _).now)).mono ?_; rintro e w17 ⟨rfl, hb17⟩; replace HBg := Lib.hid (Blk.below (by exact HBg.out) hb17 (by exact HBg.out.lt)); have sw17HBg0 : w17.cell? ⟨g, 0, none⟩ = some (.bool k4.neg) := HBg.out.cell 0; have sw17HBg1 : w17.cell? ⟨g, 1, none⟩ = some (.slice k4.A k4.k k4.c) := HBg.out.cell 1; replace Hbel := Lib.hid (Below.after (by first | exact Hbel.out | exact Below.drew Hbel.out) hb17); clear hb17)))
    all_goals
      go_wp2_with fail
      go_ret
      exact ⟨rfl, Hbel.out⟩

set_option maxRecDepth 100000 in
set_option maxHeartbeats 4000000 in
theorem back_ok_zero (w : World) (i : IV) (z : Int) (s : ByteArray) (d : Nat) (hi : IntD i z 30 w) (hs : s.size ≤ 700) (_hd : d < 256) (htab : Tab w) (hr : (parseN s.data.toList).1 = 0) (hz : z = 0) :
    Calls Tryd.prog 6 #[.agg #[.bool i.neg, .slice i.A i.k i.c], .string s, .int .u8 (d : Int)] w fun e w' => e = .returned (.bool true) ∧ Below w.heap.size w w' := by
  have hik := hi.le
  have Hlt := Lib.hid hi.lt
  have Hsh := Lib.hid (short_of hi.lt)
  have hsg : z.sign = 0 := by rw [hz]; rfl
  have Hsg := Lib.hid hsg
  have Hz := Lib.hid hz
  have hs7 : ¬ (700 : Int) < (s.size : Int) := by omega
  obtain ⟨T, hT⟩ : ∃ T : ByteArray, T = ⟨(intText (decide (z < 0)) z.natAbs).toArray⟩ := ⟨_, rfl⟩
  have HTT := Lib.hid hT
  have HP1 := Lib.hid (fun W => parse_t W z (short_of hi.lt))
  rw [← hT] at HP1
  have Hst : Hid (∀ W, Calls Tryd.prog 12 #[.agg #[.bool i.neg, .slice i.A i.k i.c], .int .i64 30] W fun e w' => e = .returned (.bool true) ∧ Below W.heap.size W w') := fun W => by
    have h1 := shortInt_any W i.neg i.A i.k i.c 30
    rw [decide_eq_true hi.le] at h1; exact h1
  have Htx : Hid (∀ W, IntD i z 30 W → Tab W → Calls Tryd.prog 10 #[.agg #[.bool i.neg, .slice i.A i.k i.c]] W fun e w' => e = .returned (.string T) ∧ Below W.heap.size W w') := fun W h1 h2 => by
    have h3 := text_i h1 (by omega) h2
    rw [hT]; exact h3
  have HPs := Lib.hid (fun W => parse_any s W (by omega))
  have HBa := Lib.hid ((by have := Blk.new w 25 #[.bool i.neg, .slice i.A i.k i.c]; simpa using this : Blk (w.alloc (.cells #[.bool i.neg, .slice i.A i.k i.c] 25)) (w.heap.size) 25 #[.bool i.neg, .slice i.A i.k i.c]))
  have Hi := Lib.hid ((hi.old).alloc (.cells #[.bool i.neg, .slice i.A i.k i.c] 25))
  have HT := Lib.hid ((htab.old).alloc (.cells #[.bool i.neg, .slice i.A i.k i.c] 25))
  have Hbel := Lib.hid (show Below w.heap.size w (w.alloc (.cells #[.bool i.neg, .slice i.A i.k i.c] 25)) from ((Below.refl w.heap.size w).alloc (by simp; try omega) (.cells #[.bool i.neg, .slice i.A i.k i.c] 25)))
  clear hi htab hz hsg hs hT
  generalize hR : parseN s.data.toList = R at *
  obtain ⟨re, rn, rv⟩ := R
  obtain rfl : re = 0 := hr
  have Htc := Lib.hid (text_back (s := s) (rn := rn) (rv := rv) hR)
  clear hR
  go_enter Tryd.func6, Tryd.ntmps6
  go_wp2_with fail
  refine (Hst.out _).mono ?_
  rintro e w1 ⟨rfl, hb1⟩
  replace HBa := Lib.hid (Blk.below (by exact HBa.out) hb1 (by exact HBa.out.lt))
  have sw1HBa0 : w1.cell? ⟨w.heap.size, 0, none⟩ = some (.bool i.neg) := HBa.out.cell 0
  have sw1HBa1 : w1.cell? ⟨w.heap.size, 1, none⟩ = some (.slice i.A i.k i.c) := HBa.out.cell 1
  replace Hi := Lib.hid (Rests.below (φ := IntD i z 30) (by first | exact Hi.out | exact Hi.out.drew) hb1)
  replace HT := Lib.hid (Rests.below (φ := Tab) (by first | exact HT.out | exact HT.out.drew) hb1)
  replace Hbel := Lib.hid (Below.after (by first | exact Hbel.out | exact Below.drew Hbel.out) hb1)
  clear hb1
  go_wp2_with fail
  refine (Htx.out _ (by first | exact Hi.out.now | exact Hi.out.drew.now) (by first | exact HT.out.now | exact HT.out.drew.now)).mono ?_
  rintro e w2 ⟨rfl, hb2⟩
  replace HBa := Lib.hid (Blk.below (by exact HBa.out) hb2 (by exact HBa.out.lt))
  have sw2HBa0 : w2.cell? ⟨w.heap.size, 0, none⟩ = some (.bool i.neg) := HBa.out.cell 0
  have sw2HBa1 : w2.cell? ⟨w.heap.size, 1, none⟩ = some (.slice i.A i.k i.c) := HBa.out.cell 1
  replace Hi := Lib.hid (Rests.below (φ := IntD i z 30) (by first | exact Hi.out | exact Hi.out.drew) hb2)
  replace HT := Lib.hid (Rests.below (φ := Tab) (by first | exact HT.out | exact HT.out.drew) hb2)
  replace Hbel := Lib.hid (Below.after (by first | exact Hbel.out | exact Below.drew Hbel.out) hb2)
  clear hb2
  go_wp2_with fail
  refine (HP1.out _).mono ?_
  rintro e w3 ⟨j, rfl, hj, hb3⟩
  replace HBa := Lib.hid (Blk.below (by exact HBa.out) hb3 (by exact HBa.out.lt))
  have sw3HBa0 : w3.cell? ⟨w.heap.size, 0, none⟩ = some (.bool i.neg) := HBa.out.cell 0
  have sw3HBa1 : w3.cell? ⟨w.heap.size, 1, none⟩ = some (.slice i.A i.k i.c) := HBa.out.cell 1
  replace Hi := Lib.hid (Rests.below (φ := IntD i z 30) (by first | exact Hi.out | exact Hi.out.drew) hb3)
  replace HT := Lib.hid (Rests.below (φ := Tab) (by first | exact HT.out | exact HT.out.drew) hb3)
  replace Hbel := Lib.hid (Below.after (by first | exact Hbel.out | exact Below.drew Hbel.out) hb3)
  have Hj := Lib.hid hj.old
  clear hj
  clear hb3
  replace HBa := Lib.hid (HBa.out.alloc (.cells #[.bool j.neg, .slice j.A j.k j.c] 25))
  replace Hi := Lib.hid (Hi.out.alloc (.cells #[.bool j.neg, .slice j.A j.k j.c] 25))
  replace HT := Lib.hid (HT.out.alloc (.cells #[.bool j.neg, .slice j.A j.k j.c] 25))
  replace Hj := Lib.hid (Hj.out.alloc (.cells #[.bool j.neg, .slice j.A j.k j.c] 25))
  replace Hbel := Lib.hid (Hbel.out.alloc Hbel.out.size (.cells #[.bool j.neg, .slice j.A j.k j.c] 25))
  have HBb := Lib.hid (Blk.new w3 25 #[.bool j.neg, .slice j.A j.k j.c])
  have pHBa0 : World.cell? _ ⟨w.heap.size, 0, none⟩ = some (.bool i.neg) := HBa.out.cell 0
  have pHBa1 : World.cell? _ ⟨w.heap.size, 1, none⟩ = some (.slice i.A i.k i.c) := HBa.out.cell 1
  have pHBb0 : World.cell? _ ⟨w3.heap.size, 0, none⟩ = some (.bool j.neg) := HBb.out.cell 0
  have pHBb1 : World.cell? _ ⟨w3.heap.size, 1, none⟩ = some (.slice j.A j.k j.c) := HBb.out.cell 1
  have n34 : w3.heap.size ≠ w.heap.size := by have := HBa.out.lt; have h2 := Hbel.out.size; have h3 := sw3HBa0; have h4 := World.block_lt_of_cell? w3 _ sw3HBa0; simp at h4; omega
  go_wp2_with fail
  go_region_held3 (fun W => W.cell? ⟨w.heap.size, 0, none⟩ = some (.bool i.neg) ∧ W.cell? ⟨w.heap.size, 1, none⟩ = some (.slice i.A i.k i.c) ∧ W.cell? ⟨w3.heap.size, 0, none⟩ = some (.bool j.neg) ∧ W.cell? ⟨w3.heap.size, 1, none⟩ = some (.slice j.A j.k j.c)) (go_keep)
    (first
      | (go_at_call 22; go_must (refine (wnorm_any _ i z 30 (by omega) (by first | exact Hi.out.now | exact Hi.out.drew.now)).mono ?_; rintro e w4 ⟨k, rfl, hk, hb4⟩; replace HBa := Lib.hid (Blk.below (by exact HBa.out) hb4 (by exact HBa.out.lt)); have sw4HBa0 : w4.cell? ⟨w.heap.size, 0, none⟩ = some (.bool i.neg) := HBa.out.cell 0; have sw4HBa1 : w4.cell? ⟨w.heap.size, 1, none⟩ = some (.slice i.A i.k i.c) := HBa.out.cell 1; replace HBb := Lib.hid (Blk.below (by exact HBb.out) hb4 (by exact HBb.out.lt)); have sw4HBb0 : w4.cell? ⟨w3.heap.size, 0, none⟩ = some (.bool j.neg) := HBb.out.cell 0; have sw4HBb1 : w4.cell? ⟨w3.heap.size, 1, none⟩ = some (.slice j.A j.k j.c) := HBb.out.cell 1; replace Hi := Lib.hid (Rests.below (φ := IntD i z 30) (by first | exact Hi.out | exact Hi.out.drew) hb4); replace HT := Lib.hid (Rests.below (φ := Tab) (by first | exact HT.out | exact HT.out.drew) hb4); replace Hj := Lib.hid (Rests.below (φ := IntN j z) (by first | exact Hj.out | exact Hj.out.drew) hb4); replace Hbel := Lib.hid (Below.after (by first | exact Hbel.out | exact Below.drew Hbel.out) hb4); have Hk := Lib.hid hk; clear hk; clear hb4))
      | (go_at_call 16; go_must (refine (sameInt_n (i := j) (j := k) (z := z) (by first | exact Hj.out.now | exact Hj.out.drew.now) (by first | exact Hk.out.now | exact Hk.out.drew.now) Hsh.out).mono ?_; rintro e w5 ⟨rfl, hb5⟩; replace HBa := Lib.hid (Blk.below (by exact HBa.out) hb5 (by exact HBa.out.lt)); have sw5HBa0 : w5.cell? ⟨w.heap.size, 0, none⟩ = some (.bool i.neg) := HBa.out.cell 0; have sw5HBa1 : w5.cell? ⟨w.heap.size, 1, none⟩ = some (.slice i.A i.k i.c) := HBa.out.cell 1; replace HBb := Lib.hid (Blk.below (by exact HBb.out) hb5 (by exact HBb.out.lt)); have sw5HBb0 : w5.cell? ⟨w3.heap.size, 0, none⟩ = some (.bool j.neg) := HBb.out.cell 0; have sw5HBb1 : w5.cell? ⟨w3.heap.size, 1, none⟩ = some (.slice j.A j.k j.c) := HBb.out.cell 1; replace Hi := Lib.hid (Rests.below (φ := IntD i z 30) (by first | exact Hi.out | exact Hi.out.drew) hb5); replace HT := Lib.hid (Rests.below (φ := Tab) (by first | exact HT.out | exact HT.out.drew) hb5); replace Hbel := Lib.hid (Below.after (by first | exact Hbel.out | exact Below.drew Hbel.out) hb5); clear hb5)))
  go_wp2_with fail
  refine (HPs.out _).mono ?_
  rintro e w6 ⟨Ac, cc, rfl, hcc, hrc, hb6⟩
  replace HBa := Lib.hid (Blk.below (by exact HBa.out) hb6 (by exact HBa.out.lt))
  have sw6HBa0 : w6.cell? ⟨w.heap.size, 0, none⟩ = some (.bool i.neg) := HBa.out.cell 0
  have sw6HBa1 : w6.cell? ⟨w.heap.size, 1, none⟩ = some (.slice i.A i.k i.c) := HBa.out.cell 1
  replace Hi := Lib.hid (Rests.below (φ := IntD i z 30) (by first | exact Hi.out | exact Hi.out.drew) hb6)
  replace HT := Lib.hid (Rests.below (φ := Tab) (by first | exact HT.out | exact HT.out.drew) hb6)
  replace Hbel := Lib.hid (Below.after (by first | exact Hbel.out | exact Below.drew Hbel.out) hb6)
  have Hrc := Lib.hid (rests_rd (F := (· < w6.heap.size)) hrc (fun k hk => hrc.lt k hk))
  clear hrc hcc
  clear hb6
  replace HBa := Lib.hid (HBa.out.alloc (.cells #[.bool rn, .slice Ac (digs B64 rv).length cc] 25))
  replace Hi := Lib.hid (Hi.out.alloc (.cells #[.bool rn, .slice Ac (digs B64 rv).length cc] 25))
  replace HT := Lib.hid (HT.out.alloc (.cells #[.bool rn, .slice Ac (digs B64 rv).length cc] 25))
  replace Hrc := Lib.hid (Hrc.out.alloc (.cells #[.bool rn, .slice Ac (digs B64 rv).length cc] 25))
  replace Hbel := Lib.hid (Hbel.out.alloc Hbel.out.size (.cells #[.bool rn, .slice Ac (digs B64 rv).length cc] 25))
  have HBc := Lib.hid (Blk.new w6 25 #[.bool rn, .slice Ac (digs B64 rv).length cc])
  have rHBa0 : World.cell? _ ⟨w.heap.size, 0, none⟩ = some (.bool i.neg) := HBa.out.cell 0
  have rHBa1 : World.cell? _ ⟨w.heap.size, 1, none⟩ = some (.slice i.A i.k i.c) := HBa.out.cell 1
  have rHBc0 : World.cell? _ ⟨w6.heap.size, 0, none⟩ = some (.bool rn) := HBc.out.cell 0
  have rHBc1 : World.cell? _ ⟨w6.heap.size, 1, none⟩ = some (.slice Ac (digs B64 rv).length cc) := HBc.out.cell 1
  go_wp2_with fail
  refine (Htc.out _ Ac cc (by first | exact Hrc.out.now | exact Hrc.out.drew.now) (by first | exact HT.out.now | exact HT.out.drew.now)).mono ?_
  rintro e w7 ⟨rfl, hb7⟩
  replace HBa := Lib.hid (Blk.below (by exact HBa.out) hb7 (by exact HBa.out.lt))
  have sw7HBa0 : w7.cell? ⟨w.heap.size, 0, none⟩ = some (.bool i.neg) := HBa.out.cell 0
  have sw7HBa1 : w7.cell? ⟨w.heap.size, 1, none⟩ = some (.slice i.A i.k i.c) := HBa.out.cell 1
  replace Hi := Lib.hid (Rests.below (φ := IntD i z 30) (by first | exact Hi.out | exact Hi.out.drew) hb7)
  replace HT := Lib.hid (Rests.below (φ := Tab) (by first | exact HT.out | exact HT.out.drew) hb7)
  replace Hbel := Lib.hid (Below.after (by first | exact Hbel.out | exact Below.drew Hbel.out) hb7)
  clear hb7
  go_wp2_with fail
  refine (wsign_any _ i z 30 (by omega) (by first | exact Hi.out.now | exact Hi.out.drew.now)).mono ?_
  rintro e w8 ⟨rfl, hb8⟩
  replace HBa := Lib.hid (Blk.below (by exact HBa.out) hb8 (by exact HBa.out.lt))
  have sw8HBa0 : w8.cell? ⟨w.heap.size, 0, none⟩ = some (.bool i.neg) := HBa.out.cell 0
  have sw8HBa1 : w8.cell? ⟨w.heap.size, 1, none⟩ = some (.slice i.A i.k i.c) := HBa.out.cell 1
  replace Hi := Lib.hid (Rests.below (φ := IntD i z 30) (by first | exact Hi.out | exact Hi.out.drew) hb8)
  replace HT := Lib.hid (Rests.below (φ := Tab) (by first | exact HT.out | exact HT.out.drew) hb8)
  replace Hbel := Lib.hid (Below.after (by first | exact Hbel.out | exact Below.drew Hbel.out) hb8)
  clear hb8
  rw [Hsg.out]
  go_wp2_with fail
  refine (wsign_any _ i z 30 (by omega) (by first | exact Hi.out.now | exact Hi.out.drew.now)).mono ?_
  rintro e w10 ⟨rfl, hb10⟩
  replace HBa := Lib.hid (Blk.below (by exact HBa.out) hb10 (by exact HBa.out.lt))
  have sw10HBa0 : w10.cell? ⟨w.heap.size, 0, none⟩ = some (.bool i.neg) := HBa.out.cell 0
  have sw10HBa1 : w10.cell? ⟨w.heap.size, 1, none⟩ = some (.slice i.A i.k i.c) := HBa.out.cell 1
  replace Hi := Lib.hid (Rests.below (φ := IntD i z 30) (by first | exact Hi.out | exact Hi.out.drew) hb10)
  replace HT := Lib.hid (Rests.below (φ := Tab) (by first | exact HT.out | exact HT.out.drew) hb10)
  replace Hbel := Lib.hid (Below.after (by first | exact Hbel.out | exact Below.drew Hbel.out) hb10)
  clear hb10
  rw [Hsg.out]
  go_wp2_with fail
  refine (awake_any _ (by first | exact HT.out.now | exact HT.out.drew.now)).mono ?_
  rintro e w11 ⟨rfl, hb11⟩
  replace HBa := Lib.hid (Blk.below (by exact HBa.out) hb11 (by exact HBa.out.lt))
  have sw11HBa0 : w11.cell? ⟨w.heap.size, 0, none⟩ = some (.bool i.neg) := HBa.out.cell 0
  have sw11HBa1 : w11.cell? ⟨w.heap.size, 1, none⟩ = some (.slice i.A i.k i.c) := HBa.out.cell 1
  replace Hbel := Lib.hid (Below.after (by first | exact Hbel.out | exact Below.drew Hbel.out) hb11)
  clear hb11
  go_wp2_with fail
  go_ret
  exact ⟨rfl, Hbel.out⟩

set_option maxRecDepth 100000 in
set_option maxHeartbeats 4000000 in
theorem back_ok_pos (w : World) (i : IV) (z : Int) (s : ByteArray) (d : Nat) (hi : IntD i z 30 w) (hs : s.size ≤ 700) (hd : d < 256) (htab : Tab w) (hr : (parseN s.data.toList).1 = 0) (hz : 0 < z) :
    Calls Tryd.prog 6 #[.agg #[.bool i.neg, .slice i.A i.k i.c], .string s, .int .u8 (d : Int)] w fun e w' => e = .returned (.bool true) ∧ Below w.heap.size w w' := by
  have hik := hi.le
  have Hlt := Lib.hid hi.lt
  have Hsh := Lib.hid (short_of hi.lt)
  have hsg : z.sign = 1 := by exact Int.sign_eq_one_of_pos hz
  have Hsg := Lib.hid hsg
  have Hz := Lib.hid hz
  have hs7 : ¬ (700 : Int) < (s.size : Int) := by omega
  obtain ⟨T, hT⟩ : ∃ T : ByteArray, T = ⟨(intText (decide (z < 0)) z.natAbs).toArray⟩ := ⟨_, rfl⟩
  have HTT := Lib.hid hT
  have HP1 := Lib.hid (fun W => parse_t W z (short_of hi.lt))
  rw [← hT] at HP1
  have Hst : Hid (∀ W, Calls Tryd.prog 12 #[.agg #[.bool i.neg, .slice i.A i.k i.c], .int .i64 30] W fun e w' => e = .returned (.bool true) ∧ Below W.heap.size W w') := fun W => by
    have h1 := shortInt_any W i.neg i.A i.k i.c 30
    rw [decide_eq_true hi.le] at h1; exact h1
  have Htx : Hid (∀ W, IntD i z 30 W → Tab W → Calls Tryd.prog 10 #[.agg #[.bool i.neg, .slice i.A i.k i.c]] W fun e w' => e = .returned (.string T) ∧ Below W.heap.size W w') := fun W h1 h2 => by
    have h3 := text_i h1 (by omega) h2
    rw [hT]; exact h3
  have HPs := Lib.hid (fun W => parse_any s W (by omega))
  have HBa := Lib.hid ((by have := Blk.new w 25 #[.bool i.neg, .slice i.A i.k i.c]; simpa using this : Blk (w.alloc (.cells #[.bool i.neg, .slice i.A i.k i.c] 25)) (w.heap.size) 25 #[.bool i.neg, .slice i.A i.k i.c]))
  have Hi := Lib.hid ((hi.old).alloc (.cells #[.bool i.neg, .slice i.A i.k i.c] 25))
  have HT := Lib.hid ((htab.old).alloc (.cells #[.bool i.neg, .slice i.A i.k i.c] 25))
  have Hbel := Lib.hid (show Below w.heap.size w (w.alloc (.cells #[.bool i.neg, .slice i.A i.k i.c] 25)) from ((Below.refl w.heap.size w).alloc (by simp; try omega) (.cells #[.bool i.neg, .slice i.A i.k i.c] 25)))
  obtain ⟨dd, hdd⟩ : ∃ dd, dd = d % 10 := ⟨_, rfl⟩
  have hd10 : dd < 10 := by omega
  have e1 : (d : Int) % 10 = (dd : Int) := by omega
  have e2 : (d : Int).tmod 10 = (dd : Int) := by rw [Int.tmod_eq_emod_of_nonneg (by omega)]; exact e1
  have e3 : IntKind.u8.wrap (dd : Int) = (dd : Int) := by simp [IntKind.wrap, IntKind.signed, IntKind.bits]; omega
  have e4 : IntKind.i64.wrap (dd : Int) = (dd : Int) := IntWalk.i64_in _ (by omega)
  have e5 : IntKind.u8.wrap ((dd : Int) + 1) = (dd : Int) + 1 := by simp [IntKind.wrap, IntKind.signed, IntKind.bits]; omega
  have HL3 := Lib.hid (show (z * 10).natAbs < B64 ^ 31 from by
    have h5 := hi.lt
    rw [Int.natAbs_mul, Nat.pow_succ]
    exact Nat.mul_lt_mul_of_lt_of_le h5 (show (10 : Int).natAbs ≤ B64 by decide) B64_pos)
  have HL4 := Lib.hid (show (z * 10 + (dd : Nat)).natAbs < B64 ^ 32 from by
    have h5 := HL3.out
    have h6 : B64 ^ 31 * 2 ≤ B64 ^ 32 := by rw [Nat.pow_succ]; exact Nat.mul_le_mul_left _ (by decide)
    have h7 : B64 ^ 1 ≤ B64 ^ 31 := Nat.pow_le_pow_right B64_pos (by decide)
    have h8 : 10 ≤ B64 ^ 1 := by decide
    omega)
  have HLd := Lib.hid (show ((dd : Nat) : Int).natAbs < B64 ^ 1 from by simp only [B64]; omega)
  have hdg := dig10 dd hd10
  have Hmul := Lib.hid (fun (W : World) (a k : IV) (h1 : IntD a z 30 W) (h2 : IntN k 10 W) => wmul_any W a k z 10 30 1 (by omega) (by omega) h1 (h2.ofLt (by decide)))
  have Hadd := Lib.hid (fun (W : World) (a k : IV) (h1 : IntN a (z * 10) W) (h2 : IntN k (dd : Nat) W) => wadd_any W a k (z * 10) (dd : Nat) 31 1 (by omega) (by omega) (h1.ofLt HL3.out) (h2.ofLt HLd.out))
  have hTs : T.size ≤ 700 := by
    rw [hT, size_str]
    have h5 := dec_length (short_of hi.lt) (by decide)
    unfold intText; rw [if_neg (by omega), decide_eq_false (by omega)]; simp; omega
  have Htx4 := Lib.hid (fun (W : World) (k : IV) (h1 : IntN k (z * 10 + (dd : Nat)) W) (h2 : Tab W) => (show Calls Tryd.prog 10 #[.agg #[.bool k.neg, .slice k.A k.k k.c]] W fun e w' => e = .returned (.string (T ++ ⟨#[UInt8.ofNat (48 + dd)]⟩)) ∧ Below W.heap.size W w' from by
    have h5 := text_i (h1.ofLt (n := 32) HL4.out) (by omega) h2
    have h6 : intText (decide (z * 10 + (dd : Nat) < 0)) (z * 10 + (dd : Nat)).natAbs = Lib.decDigits z.natAbs ++ [UInt8.ofNat (48 + dd)] := by
      rw [decide_eq_false (by omega), show (z * 10 + (dd : Nat)).natAbs = z.natAbs * 10 + dd by omega]
      exact text_more _ _ (by omega) hd10
    have h7 : T ++ (⟨#[UInt8.ofNat (48 + dd)]⟩ : ByteArray) = ⟨(Lib.decDigits z.natAbs ++ [UInt8.ofNat (48 + dd)]).toArray⟩ := by
      rw [hT]
      unfold intText; rw [if_neg (by omega), decide_eq_false (by omega)]
      apply ByteArray.ext
      simp [ByteArray.data_append]
    rw [h6] at h5
    rw [h7]; exact h5))
  obtain ⟨D, hD⟩ : ∃ D : ByteArray, D = ⟨#[UInt8.ofNat (48 + dd)]⟩ := ⟨_, rfl⟩
  have hDs : D.size = 1 := by rw [hD]; rfl
  rw [← hD] at hdg Htx4
  clear hD
  have hcat := fun (W : World) => run_string_add_sum (P := Tryd.prog) W T D (by omega)
  have hno : ¬ 9223372036854775807 < T.size + 1 := by omega
  have hno2 : ¬ 9223372036854775807 ≤ T.size := by omega
  have Hof1 := Lib.hid (fun W => wof_any W 10 (by decide) (by decide))
  have Hof2 := Lib.hid (fun W => wof_any W (dd : Nat) (by omega) (by omega))
  clear hdd
  clear hi htab hz hsg hs hT
  generalize hR : parseN s.data.toList = R at *
  obtain ⟨re, rn, rv⟩ := R
  obtain rfl : re = 0 := hr
  have Htc := Lib.hid (text_back (s := s) (rn := rn) (rv := rv) hR)
  clear hR
  go_enter Tryd.func6, Tryd.ntmps6
  go_wp2_with fail
  refine (Hst.out _).mono ?_
  rintro e w1 ⟨rfl, hb1⟩
  replace HBa := Lib.hid (Blk.below (by exact HBa.out) hb1 (by exact HBa.out.lt))
  have sw1HBa0 : w1.cell? ⟨w.heap.size, 0, none⟩ = some (.bool i.neg) := HBa.out.cell 0
  have sw1HBa1 : w1.cell? ⟨w.heap.size, 1, none⟩ = some (.slice i.A i.k i.c) := HBa.out.cell 1
  replace Hi := Lib.hid (Rests.below (φ := IntD i z 30) (by first | exact Hi.out | exact Hi.out.drew) hb1)
  replace HT := Lib.hid (Rests.below (φ := Tab) (by first | exact HT.out | exact HT.out.drew) hb1)
  replace Hbel := Lib.hid (Below.after (by first | exact Hbel.out | exact Below.drew Hbel.out) hb1)
  clear hb1
  go_wp2_with fail
  refine (Htx.out _ (by first | exact Hi.out.now | exact Hi.out.drew.now) (by first | exact HT.out.now | exact HT.out.drew.now)).mono ?_
  rintro e w2 ⟨rfl, hb2⟩
  replace HBa := Lib.hid (Blk.below (by exact HBa.out) hb2 (by exact HBa.out.lt))
  have sw2HBa0 : w2.cell? ⟨w.heap.size, 0, none⟩ = some (.bool i.neg) := HBa.out.cell 0
  have sw2HBa1 : w2.cell? ⟨w.heap.size, 1, none⟩ = some (.slice i.A i.k i.c) := HBa.out.cell 1
  replace Hi := Lib.hid (Rests.below (φ := IntD i z 30) (by first | exact Hi.out | exact Hi.out.drew) hb2)
  replace HT := Lib.hid (Rests.below (φ := Tab) (by first | exact HT.out | exact HT.out.drew) hb2)
  replace Hbel := Lib.hid (Below.after (by first | exact Hbel.out | exact Below.drew Hbel.out) hb2)
  clear hb2
  go_wp2_with fail
  refine (HP1.out _).mono ?_
  rintro e w3 ⟨j, rfl, hj, hb3⟩
  replace HBa := Lib.hid (Blk.below (by exact HBa.out) hb3 (by exact HBa.out.lt))
  have sw3HBa0 : w3.cell? ⟨w.heap.size, 0, none⟩ = some (.bool i.neg) := HBa.out.cell 0
  have sw3HBa1 : w3.cell? ⟨w.heap.size, 1, none⟩ = some (.slice i.A i.k i.c) := HBa.out.cell 1
  replace Hi := Lib.hid (Rests.below (φ := IntD i z 30) (by first | exact Hi.out | exact Hi.out.drew) hb3)
  replace HT := Lib.hid (Rests.below (φ := Tab) (by first | exact HT.out | exact HT.out.drew) hb3)
  replace Hbel := Lib.hid (Below.after (by first | exact Hbel.out | exact Below.drew Hbel.out) hb3)
  have Hj := Lib.hid hj.old
  clear hj
  clear hb3
  replace HBa := Lib.hid (HBa.out.alloc (.cells #[.bool j.neg, .slice j.A j.k j.c] 25))
  replace Hi := Lib.hid (Hi.out.alloc (.cells #[.bool j.neg, .slice j.A j.k j.c] 25))
  replace HT := Lib.hid (HT.out.alloc (.cells #[.bool j.neg, .slice j.A j.k j.c] 25))
  replace Hj := Lib.hid (Hj.out.alloc (.cells #[.bool j.neg, .slice j.A j.k j.c] 25))
  replace Hbel := Lib.hid (Hbel.out.alloc Hbel.out.size (.cells #[.bool j.neg, .slice j.A j.k j.c] 25))
  have HBb := Lib.hid (Blk.new w3 25 #[.bool j.neg, .slice j.A j.k j.c])
  have pHBa0 : World.cell? _ ⟨w.heap.size, 0, none⟩ = some (.bool i.neg) := HBa.out.cell 0
  have pHBa1 : World.cell? _ ⟨w.heap.size, 1, none⟩ = some (.slice i.A i.k i.c) := HBa.out.cell 1
  have pHBb0 : World.cell? _ ⟨w3.heap.size, 0, none⟩ = some (.bool j.neg) := HBb.out.cell 0
  have pHBb1 : World.cell? _ ⟨w3.heap.size, 1, none⟩ = some (.slice j.A j.k j.c) := HBb.out.cell 1
  have n34 : w3.heap.size ≠ w.heap.size := by have := HBa.out.lt; have h2 := Hbel.out.size; have h3 := sw3HBa0; have h4 := World.block_lt_of_cell? w3 _ sw3HBa0; simp at h4; omega
  go_wp2_with fail
  go_region_held3 (fun W => W.cell? ⟨w.heap.size, 0, none⟩ = some (.bool i.neg) ∧ W.cell? ⟨w.heap.size, 1, none⟩ = some (.slice i.A i.k i.c) ∧ W.cell? ⟨w3.heap.size, 0, none⟩ = some (.bool j.neg) ∧ W.cell? ⟨w3.heap.size, 1, none⟩ = some (.slice j.A j.k j.c)) (go_keep)
    (first
      | (go_at_call 22; go_must (refine (wnorm_any _ i z 30 (by omega) (by first | exact Hi.out.now | exact Hi.out.drew.now)).mono ?_; rintro e w4 ⟨k, rfl, hk, hb4⟩; replace HBa := Lib.hid (Blk.below (by exact HBa.out) hb4 (by exact HBa.out.lt)); have sw4HBa0 : w4.cell? ⟨w.heap.size, 0, none⟩ = some (.bool i.neg) := HBa.out.cell 0; have sw4HBa1 : w4.cell? ⟨w.heap.size, 1, none⟩ = some (.slice i.A i.k i.c) := HBa.out.cell 1; replace HBb := Lib.hid (Blk.below (by exact HBb.out) hb4 (by exact HBb.out.lt)); have sw4HBb0 : w4.cell? ⟨w3.heap.size, 0, none⟩ = some (.bool j.neg) := HBb.out.cell 0; have sw4HBb1 : w4.cell? ⟨w3.heap.size, 1, none⟩ = some (.slice j.A j.k j.c) := HBb.out.cell 1; replace Hi := Lib.hid (Rests.below (φ := IntD i z 30) (by first | exact Hi.out | exact Hi.out.drew) hb4); replace HT := Lib.hid (Rests.below (φ := Tab) (by first | exact HT.out | exact HT.out.drew) hb4); replace Hj := Lib.hid (Rests.below (φ := IntN j z) (by first | exact Hj.out | exact Hj.out.drew) hb4); replace Hbel := Lib.hid (Below.after (by first | exact Hbel.out | exact Below.drew Hbel.out) hb4); have Hk := Lib.hid hk; clear hk; clear hb4))
      | (go_at_call 16; go_must (refine (sameInt_n (i := j) (j := k) (z := z) (by first | exact Hj.out.now | exact Hj.out.drew.now) (by first | exact Hk.out.now | exact Hk.out.drew.now) Hsh.out).mono ?_; rintro e w5 ⟨rfl, hb5⟩; replace HBa := Lib.hid (Blk.below (by exact HBa.out) hb5 (by exact HBa.out.lt)); have sw5HBa0 : w5.cell? ⟨w.heap.size, 0, none⟩ = some (.bool i.neg) := HBa.out.cell 0; have sw5HBa1 : w5.cell? ⟨w.heap.size, 1, none⟩ = some (.slice i.A i.k i.c) := HBa.out.cell 1; replace HBb := Lib.hid (Blk.below (by exact HBb.out) hb5 (by exact HBb.out.lt)); have sw5HBb0 : w5.cell? ⟨w3.heap.size, 0, none⟩ = some (.bool j.neg) := HBb.out.cell 0; have sw5HBb1 : w5.cell? ⟨w3.heap.size, 1, none⟩ = some (.slice j.A j.k j.c) := HBb.out.cell 1; replace Hi := Lib.hid (Rests.below (φ := IntD i z 30) (by first | exact Hi.out | exact Hi.out.drew) hb5); replace HT := Lib.hid (Rests.below (φ := Tab) (by first | exact HT.out | exact HT.out.drew) hb5); replace Hbel := Lib.hid (Below.after (by first | exact Hbel.out | exact Below.drew Hbel.out) hb5); clear hb5)))
  go_wp2_with fail
  refine (HPs.out _).mono ?_
  rintro e w6 ⟨Ac, cc, rfl, hcc, hrc, hb6⟩
  replace HBa := Lib.hid (Blk.below (by exact HBa.out) hb6 (by exact HBa.out.lt))
  have sw6HBa0 : w6.cell? ⟨w.heap.size, 0, none⟩ = some (.bool i.neg) := HBa.out.cell 0
  have sw6HBa1 : w6.cell? ⟨w.heap.size, 1, none⟩ = some (.slice i.A i.k i.c) := HBa.out.cell 1
  replace Hi := Lib.hid (Rests.below (φ := IntD i z 30) (by first | exact Hi.out | exact Hi.out.drew) hb6)
  replace HT := Lib.hid (Rests.below (φ := Tab) (by first | exact HT.out | exact HT.out.drew) hb6)
  replace Hbel := Lib.hid (Below.after (by first | exact Hbel.out | exact Below.drew Hbel.out) hb6)
  have Hrc := Lib.hid (rests_rd (F := (· < w6.heap.size)) hrc (fun k hk => hrc.lt k hk))
  clear hrc hcc
  clear hb6
  replace HBa := Lib.hid (HBa.out.alloc (.cells #[.bool rn, .slice Ac (digs B64 rv).length cc] 25))
  replace Hi := Lib.hid (Hi.out.alloc (.cells #[.bool rn, .slice Ac (digs B64 rv).length cc] 25))
  replace HT := Lib.hid (HT.out.alloc (.cells #[.bool rn, .slice Ac (digs B64 rv).length cc] 25))
  replace Hrc := Lib.hid (Hrc.out.alloc (.cells #[.bool rn, .slice Ac (digs B64 rv).length cc] 25))
  replace Hbel := Lib.hid (Hbel.out.alloc Hbel.out.size (.cells #[.bool rn, .slice Ac (digs B64 rv).length cc] 25))
  have HBc := Lib.hid (Blk.new w6 25 #[.bool rn, .slice Ac (digs B64 rv).length cc])
  have rHBa0 : World.cell? _ ⟨w.heap.size, 0, none⟩ = some (.bool i.neg) := HBa.out.cell 0
  have rHBa1 : World.cell? _ ⟨w.heap.size, 1, none⟩ = some (.slice i.A i.k i.c) := HBa.out.cell 1
  have rHBc0 : World.cell? _ ⟨w6.heap.size, 0, none⟩ = some (.bool rn) := HBc.out.cell 0
  have rHBc1 : World.cell? _ ⟨w6.heap.size, 1, none⟩ = some (.slice Ac (digs B64 rv).length cc) := HBc.out.cell 1
  go_wp2_with fail
  refine (Htc.out _ Ac cc (by first | exact Hrc.out.now | exact Hrc.out.drew.now) (by first | exact HT.out.now | exact HT.out.drew.now)).mono ?_
  rintro e w7 ⟨rfl, hb7⟩
  replace HBa := Lib.hid (Blk.below (by exact HBa.out) hb7 (by exact HBa.out.lt))
  have sw7HBa0 : w7.cell? ⟨w.heap.size, 0, none⟩ = some (.bool i.neg) := HBa.out.cell 0
  have sw7HBa1 : w7.cell? ⟨w.heap.size, 1, none⟩ = some (.slice i.A i.k i.c) := HBa.out.cell 1
  replace Hi := Lib.hid (Rests.below (φ := IntD i z 30) (by first | exact Hi.out | exact Hi.out.drew) hb7)
  replace HT := Lib.hid (Rests.below (φ := Tab) (by first | exact HT.out | exact HT.out.drew) hb7)
  replace Hbel := Lib.hid (Below.after (by first | exact Hbel.out | exact Below.drew Hbel.out) hb7)
  clear hb7
  go_wp2_with fail
  refine (wsign_any _ i z 30 (by omega) (by first | exact Hi.out.now | exact Hi.out.drew.now)).mono ?_
  rintro e w8 ⟨rfl, hb8⟩
  replace HBa := Lib.hid (Blk.below (by exact HBa.out) hb8 (by exact HBa.out.lt))
  have sw8HBa0 : w8.cell? ⟨w.heap.size, 0, none⟩ = some (.bool i.neg) := HBa.out.cell 0
  have sw8HBa1 : w8.cell? ⟨w.heap.size, 1, none⟩ = some (.slice i.A i.k i.c) := HBa.out.cell 1
  replace Hi := Lib.hid (Rests.below (φ := IntD i z 30) (by first | exact Hi.out | exact Hi.out.drew) hb8)
  replace HT := Lib.hid (Rests.below (φ := Tab) (by first | exact HT.out | exact HT.out.drew) hb8)
  replace Hbel := Lib.hid (Below.after (by first | exact Hbel.out | exact Below.drew Hbel.out) hb8)
  clear hb8
  rw [Hsg.out]
  go_wp2_with fail
  refine (wsign_any _ i z 30 (by omega) (by first | exact Hi.out.now | exact Hi.out.drew.now)).mono ?_
  rintro e w10 ⟨rfl, hb10⟩
  replace HBa := Lib.hid (Blk.below (by exact HBa.out) hb10 (by exact HBa.out.lt))
  have sw10HBa0 : w10.cell? ⟨w.heap.size, 0, none⟩ = some (.bool i.neg) := HBa.out.cell 0
  have sw10HBa1 : w10.cell? ⟨w.heap.size, 1, none⟩ = some (.slice i.A i.k i.c) := HBa.out.cell 1
  replace Hi := Lib.hid (Rests.below (φ := IntD i z 30) (by first | exact Hi.out | exact Hi.out.drew) hb10)
  replace HT := Lib.hid (Rests.below (φ := Tab) (by first | exact HT.out | exact HT.out.drew) hb10)
  replace Hbel := Lib.hid (Below.after (by first | exact Hbel.out | exact Below.drew Hbel.out) hb10)
  clear hb10
  rw [Hsg.out]
  have lw10 : w.heap.size < w10.heap.size := HBa.out.lt
  have zw10 : w10.heap.size ≠ w.heap.size := Nat.ne_of_gt HBa.out.lt
  have yw10 : w.heap.size ≠ w10.heap.size := Nat.ne_of_lt HBa.out.lt
  go_wp2_with fail
  go_region_held3 (fun W => W.cell? ⟨w.heap.size, 0, none⟩ = some (.bool i.neg) ∧ W.cell? ⟨w.heap.size, 1, none⟩ = some (.slice i.A i.k i.c)) (go_keep)
    (first
      | (go_at_call_of 27 (Value.int .i64 10); go_must (refine (Hof1.out _).mono ?_; rintro e w12 ⟨k1, rfl, hk1, hb12⟩; (first | (have HBm := Lib.hid (Blk.below (Blk.new _ 25 #[.bool false, .slice none 0 0]) hb12 (by simp))) | (have HBm := Lib.hid (Blk.below (show Blk (World.drew (World.alloc _ (.cells #[.bool false, .slice none 0 0] 25))) _ 25 #[.bool false, .slice none 0 0] from Blk.new _ 25 #[.bool false, .slice none 0 0]) hb12 (by simp))) | (replace HBm := Lib.hid (Blk.below (by exact HBm.out) hb12 (by exact HBm.out.lt))) | skip); (try (have mw120 := HBm.out.cell 0; have mw121 := HBm.out.cell 1; have nw120 := HBm.out.frozen 0; have nw121 := HBm.out.frozen 1; simp at mw120 mw121 nw120 nw121)); replace HBa := Lib.hid (Blk.below (by first | exact HBa.out | exact HBa.out.alloc _) hb12 (by first | exact HBa.out.lt | exact (HBa.out.alloc _).lt)); have sw12HBa0 : w12.cell? ⟨w.heap.size, 0, none⟩ = some (.bool i.neg) := HBa.out.cell 0; have sw12HBa1 : w12.cell? ⟨w.heap.size, 1, none⟩ = some (.slice i.A i.k i.c) := HBa.out.cell 1; replace HT := Lib.hid (Rests.below (φ := Tab) (by first | exact HT.out | exact HT.out.drew | exact HT.out.alloc _ | exact HT.out.drew.alloc _) hb12); replace Hi := Lib.hid (Rests.below (φ := IntD i z 30) (by first | exact Hi.out | exact Hi.out.drew | exact Hi.out.alloc _ | exact Hi.out.drew.alloc _) hb12); replace Hbel := Lib.hid (Below.after (by first | exact Hbel.out | exact Below.drew Hbel.out | exact Hbel.out.alloc Hbel.out.size _ | exact (Below.drew Hbel.out).alloc Hbel.out.size _) hb12); have Hk1 := Lib.hid hk1; clear hk1; (try replace Hk2 := Lib.hid (Rests.below (φ := IntN k2 (dd : Nat)) (by first | exact Hk2.out | exact Hk2.out.drew | exact Hk2.out.alloc _ | exact Hk2.out.drew.alloc _) hb12)); (try replace Hk3 := Lib.hid (Rests.below (φ := IntN k3 (z * 10)) (by first | exact Hk3.out | exact Hk3.out.drew | exact Hk3.out.alloc _ | exact Hk3.out.drew.alloc _) hb12)); have lw12 : w.heap.size < w12.heap.size := HBa.out.lt; have zw12 : w12.heap.size ≠ w.heap.size := Nat.ne_of_gt HBa.out.lt; have yw12 : w.heap.size ≠ w12.heap.size := Nat.ne_of_lt HBa.out.lt; clear hb12))
      | (go_at_call_of 27 (Value.int .i64 (dd : Int)); go_must (refine (Hof2.out _).mono ?_; rintro e w13 ⟨k2, rfl, hk2, hb13⟩; (first | (have HBm := Lib.hid (Blk.below (Blk.new _ 25 #[.bool false, .slice none 0 0]) hb13 (by simp))) | (have HBm := Lib.hid (Blk.below (show Blk (World.drew (World.alloc _ (.cells #[.bool false, .slice none 0 0] 25))) _ 25 #[.bool false, .slice none 0 0] from Blk.new _ 25 #[.bool false, .slice none 0 0]) hb13 (by simp))) | (replace HBm := Lib.hid (Blk.below (by exact HBm.out) hb13 (by exact HBm.out.lt))) | skip); (try (have mw130 := HBm.out.cell 0; have mw131 := HBm.out.cell 1; have nw130 := HBm.out.frozen 0; have nw131 := HBm.out.frozen 1; simp at mw130 mw131 nw130 nw131)); replace HBa := Lib.hid (Blk.below (by first | exact HBa.out | exact HBa.out.alloc _) hb13 (by first | exact HBa.out.lt | exact (HBa.out.alloc _).lt)); have sw13HBa0 : w13.cell? ⟨w.heap.size, 0, none⟩ = some (.bool i.neg) := HBa.out.cell 0; have sw13HBa1 : w13.cell? ⟨w.heap.size, 1, none⟩ = some (.slice i.A i.k i.c) := HBa.out.cell 1; replace HT := Lib.hid (Rests.below (φ := Tab) (by first | exact HT.out | exact HT.out.drew | exact HT.out.alloc _ | exact HT.out.drew.alloc _) hb13); replace Hi := Lib.hid (Rests.below (φ := IntD i z 30) (by first | exact Hi.out | exact Hi.out.drew | exact Hi.out.alloc _ | exact Hi.out.drew.alloc _) hb13); replace Hbel := Lib.hid (Below.after (by first | exact Hbel.out | exact Below.drew Hbel.out | exact Hbel.out.alloc Hbel.out.size _ | exact (Below.drew Hbel.out).alloc Hbel.out.size _) hb13); have Hk2 := Lib.hid hk2; clear hk2; (try replace Hk1 := Lib.hid (Rests.below (φ := IntN k1 10) (by first | exact Hk1.out | exact Hk1.out.drew | exact Hk1.out.alloc _ | exact Hk1.out.drew.alloc _) hb13)); (try replace Hk3 := Lib.hid (Rests.below (φ := IntN k3 (z * 10)) (by first | exact Hk3.out | exact Hk3.out.drew | exact Hk3.out.alloc _ | exact Hk3.out.drew.alloc _) hb13)); have lw13 : w.heap.size < w13.heap.size := HBa.out.lt; have zw13 : w13.heap.size ≠ w.heap.size := Nat.ne_of_gt HBa.out.lt; have yw13 : w.heap.size ≠ w13.heap.size := Nat.ne_of_lt HBa.out.lt; clear hb13))
      | (go_at_call 26; go_must (refine (Hmul.out _ i k1 (by first | exact Hi.out.now | exact Hi.out.drew.now | exact (Hi.out.alloc _).now | exact (Hi.out.drew.alloc _).now) (by first | exact Hk1.out.now | exact Hk1.out.drew.now | exact (Hk1.out.alloc _).now | exact (Hk1.out.drew.alloc _).now)).mono ?_; rintro e w14 ⟨k3, rfl, hk3, hb14⟩; (first | (have HBm := Lib.hid (Blk.below (Blk.new _ 25 #[.bool false, .slice none 0 0]) hb14 (by simp))) | (have HBm := Lib.hid (Blk.below (show Blk (World.drew (World.alloc _ (.cells #[.bool false, .slice none 0 0] 25))) _ 25 #[.bool false, .slice none 0 0] from Blk.new _ 25 #[.bool false, .slice none 0 0]) hb14 (by simp))) | (replace HBm := Lib.hid (Blk.below (by exact HBm.out) hb14 (by exact HBm.out.lt))) | skip); (try (have mw140 := HBm.out.cell 0; have mw141 := HBm.out.cell 1; have nw140 := HBm.out.frozen 0; have nw141 := HBm.out.frozen 1; simp at mw140 mw141 nw140 nw141)); replace HBa := Lib.hid (Blk.below (by first | exact HBa.out | exact HBa.out.alloc _) hb14 (by first | exact HBa.out.lt | exact (HBa.out.alloc _).lt)); have sw14HBa0 : w14.cell? ⟨w.heap.size, 0, none⟩ = some (.bool i.neg) := HBa.out.cell 0; have sw14HBa1 : w14.cell? ⟨w.heap.size, 1, none⟩ = some (.slice i.A i.k i.c) := HBa.out.cell 1; replace HT := Lib.hid (Rests.below (φ := Tab) (by first | exact HT.out | exact HT.out.drew | exact HT.out.alloc _ | exact HT.out.drew.alloc _) hb14); replace Hi := Lib.hid (Rests.below (φ := IntD i z 30) (by first | exact Hi.out | exact Hi.out.drew | exact Hi.out.alloc _ | exact Hi.out.drew.alloc _) hb14); replace Hbel := Lib.hid (Below.after (by first | exact Hbel.out | exact Below.drew Hbel.out | exact Hbel.out.alloc Hbel.out.size _ | exact (Below.drew Hbel.out).alloc Hbel.out.size _) hb14); have Hk3 := Lib.hid hk3; clear hk3; (try replace Hk1 := Lib.hid (Rests.below (φ := IntN k1 10) (by first | exact Hk1.out | exact Hk1.out.drew | exact Hk1.out.alloc _ | exact Hk1.out.drew.alloc _) hb14)); (try replace Hk2 := Lib.hid (Rests.below (φ := IntN k2 (dd : Nat)) (by first | exact Hk2.out | exact Hk2.out.drew | exact Hk2.out.alloc _ | exact Hk2.out.drew.alloc _) hb14)); have lw14 : w.heap.size < w14.heap.size := HBa.out.lt; have zw14 : w14.heap.size ≠ w.heap.size := Nat.ne_of_gt HBa.out.lt; have yw14 : w.heap.size ≠ w14.heap.size := Nat.ne_of_lt HBa.out.lt; clear hb14))
      | (go_at_call 25; go_must (refine (Hadd.out _ k3 k2 (by first | exact Hk3.out.now | exact Hk3.out.drew.now | exact (Hk3.out.alloc _).now | exact (Hk3.out.drew.alloc _).now) (by first | exact Hk2.out.now | exact Hk2.out.drew.now | exact (Hk2.out.alloc _).now | exact (Hk2.out.drew.alloc _).now)).mono ?_; rintro e w15 ⟨k4, rfl, hk4, hb15⟩; (try (have hgm := HBm.out.lt)); (first | (have HBm := Lib.hid (Blk.below (Blk.new _ 25 #[.bool false, .slice none 0 0]) hb15 (by simp))) | (have HBm := Lib.hid (Blk.below (show Blk (World.drew (World.alloc _ (.cells #[.bool false, .slice none 0 0] 25))) _ 25 #[.bool false, .slice none 0 0] from Blk.new _ 25 #[.bool false, .slice none 0 0]) hb15 (by simp))) | (replace HBm := Lib.hid (Blk.below (by exact HBm.out) hb15 (by exact HBm.out.lt))) | skip); (try (have mw150 := HBm.out.cell 0; have mw151 := HBm.out.cell 1; have nw150 := HBm.out.frozen 0; have nw151 := HBm.out.frozen 1; simp at mw150 mw151 nw150 nw151)); replace HBa := Lib.hid (Blk.below (by first | exact HBa.out | exact HBa.out.alloc _) hb15 (by first | exact HBa.out.lt | exact (HBa.out.alloc _).lt)); have sw15HBa0 : w15.cell? ⟨w.heap.size, 0, none⟩ = some (.bool i.neg) := HBa.out.cell 0; have sw15HBa1 : w15.cell? ⟨w.heap.size, 1, none⟩ = some (.slice i.A i.k i.c) := HBa.out.cell 1; replace HT := Lib.hid (Rests.below (φ := Tab) (by first | exact HT.out | exact HT.out.drew | exact HT.out.alloc _ | exact HT.out.drew.alloc _) hb15); replace Hi := Lib.hid (Rests.below (φ := IntD i z 30) (by first | exact Hi.out | exact Hi.out.drew | exact Hi.out.alloc _ | exact Hi.out.drew.alloc _) hb15); replace Hbel := Lib.hid (Below.after (by first | exact Hbel.out | exact Below.drew Hbel.out | exact Hbel.out.alloc Hbel.out.size _ | exact (Below.drew Hbel.out).alloc Hbel.out.size _) hb15); (first | (have Hk4 := Lib.hid (hk4.mono (fun b hb => Nat.lt_of_lt_of_le hgm hb))) | (have Hk4 := Lib.hid (hk4.mono (fun b hb => Nat.lt_of_lt_of_le (alloc_lt _ _) hb))) | (have Hk4 := Lib.hid hk4)); clear hk4; (try replace Hk1 := Lib.hid (Rests.below (φ := IntN k1 10) (by first | exact Hk1.out | exact Hk1.out.drew | exact Hk1.out.alloc _ | exact Hk1.out.drew.alloc _) hb15)); (try replace Hk2 := Lib.hid (Rests.below (φ := IntN k2 (dd : Nat)) (by first | exact Hk2.out | exact Hk2.out.drew | exact Hk2.out.alloc _ | exact Hk2.out.drew.alloc _) hb15)); (try replace Hk3 := Lib.hid (Rests.below (φ := IntN k3 (z * 10)) (by first | exact Hk3.out | exact Hk3.out.drew | exact Hk3.out.alloc _ | exact Hk3.out.drew.alloc _) hb15)); have lw15 : w.heap.size < w15.heap.size := HBa.out.lt; have zw15 : w15.heap.size ≠ w.heap.size := Nat.ne_of_gt HBa.out.lt; have yw15 : w.heap.size ≠ w15.heap.size := Nat.ne_of_lt HBa.out.lt; clear hb15)))
  all_goals
    go_wp2_with fail
    first
      | (have HBg := Lib.hid (show Blk ((w15.setCell ⟨w13.heap.size, 0, none⟩ (.bool k4.neg)).setCell ⟨w13.heap.size, 1, none⟩ (.slice k4.A k4.k k4.c)) w13.heap.size 25 #[.bool k4.neg, .slice k4.A k4.k k4.c] from (HBm.out.set_ 0 (.bool k4.neg)).set_ 1 (.slice k4.A k4.k k4.c)); have Hkn := Lib.hid ((Hk4.out.set (a := ⟨w13.heap.size, 0, none⟩) (Nat.lt_irrefl _) (.bool k4.neg)).set (a := ⟨w13.heap.size, 1, none⟩) (Nat.lt_irrefl _) (.slice k4.A k4.k k4.c)); replace HT := Lib.hid ((HT.out.set (a := ⟨w13.heap.size, 0, none⟩) (Nat.not_lt.2 (Nat.le_of_lt lw13)) (.bool k4.neg)).set (a := ⟨w13.heap.size, 1, none⟩) (Nat.not_lt.2 (Nat.le_of_lt lw13)) (.slice k4.A k4.k k4.c)); replace Hbel := Lib.hid ((Hbel.out.setCell (p := ⟨w13.heap.size, 0, none⟩) (Nat.le_of_lt lw13) (.bool k4.neg)).setCell (p := ⟨w13.heap.size, 1, none⟩) (Nat.le_of_lt lw13) (.slice k4.A k4.k k4.c)); generalize hWW : ((w15.setCell ⟨w13.heap.size, 0, none⟩ (.bool k4.neg)).setCell ⟨w13.heap.size, 1, none⟩ (.slice k4.A k4.k k4.c)) = W at *; generalize hgg : w13.heap.size = g at *; clear hWW hgg)
      | (have HBg := Lib.hid (show Blk ((w15.setCell ⟨w14.heap.size, 0, none⟩ (.bool k4.neg)).setCell ⟨w14.heap.size, 1, none⟩ (.slice k4.A k4.k k4.c)) w14.heap.size 25 #[.bool k4.neg, .slice k4.A k4.k k4.c] from (HBm.out.set_ 0 (.bool k4.neg)).set_ 1 (.slice k4.A k4.k k4.c)); have Hkn := Lib.hid ((Hk4.out.set (a := ⟨w14.heap.size, 0, none⟩) (Nat.lt_irrefl _) (.bool k4.neg)).set (a := ⟨w14.heap.size, 1, none⟩) (Nat.lt_irrefl _) (.slice k4.A k4.k k4.c)); replace HT := Lib.hid ((HT.out.set (a := ⟨w14.heap.size, 0, none⟩) (Nat.not_lt.2 (Nat.le_of_lt lw14)) (.bool k4.neg)).set (a := ⟨w14.heap.size, 1, none⟩) (Nat.not_lt.2 (Nat.le_of_lt lw14)) (.slice k4.A k4.k k4.c)); replace Hbel := Lib.hid ((Hbel.out.setCell (p := ⟨w14.heap.size, 0, none⟩) (Nat.le_of_lt lw14) (.bool k4.neg)).setCell (p := ⟨w14.heap.size, 1, none⟩) (Nat.le_of_lt lw14) (.slice k4.A k4.k k4.c)); generalize hWW : ((w15.setCell ⟨w14.heap.size, 0, none⟩ (.bool k4.neg)).setCell ⟨w14.heap.size, 1, none⟩ (.slice k4.A k4.k k4.c)) = W at *; generalize hgg : w14.heap.size = g at *; clear hWW hgg)
      | (have HBg := Lib.hid (show Blk ((w15.setCell ⟨w12.heap.size, 0, none⟩ (.bool k4.neg)).setCell ⟨w12.heap.size, 1, none⟩ (.slice k4.A k4.k k4.c)) w12.heap.size 25 #[.bool k4.neg, .slice k4.A k4.k k4.c] from (HBm.out.set_ 0 (.bool k4.neg)).set_ 1 (.slice k4.A k4.k k4.c)); have Hkn := Lib.hid ((Hk4.out.set (a := ⟨w12.heap.size, 0, none⟩) (Nat.lt_irrefl _) (.bool k4.neg)).set (a := ⟨w12.heap.size, 1, none⟩) (Nat.lt_irrefl _) (.slice k4.A k4.k k4.c)); replace HT := Lib.hid ((HT.out.set (a := ⟨w12.heap.size, 0, none⟩) (Nat.not_lt.2 (Nat.le_of_lt lw12)) (.bool k4.neg)).set (a := ⟨w12.heap.size, 1, none⟩) (Nat.not_lt.2 (Nat.le_of_lt lw12)) (.slice k4.A k4.k k4.c)); replace Hbel := Lib.hid ((Hbel.out.setCell (p := ⟨w12.heap.size, 0, none⟩) (Nat.le_of_lt lw12) (.bool k4.neg)).setCell (p := ⟨w12.heap.size, 1, none⟩) (Nat.le_of_lt lw12) (.slice k4.A k4.k k4.c)); generalize hWW : ((w15.setCell ⟨w12.heap.size, 0, none⟩ (.bool k4.neg)).setCell ⟨w12.heap.size, 1, none⟩ (.slice k4.A k4.k k4.c)) = W at *; generalize hgg : w12.heap.size = g at *; clear hWW hgg)
      | (have HBg := Lib.hid (show Blk ((w15.setCell ⟨w10.heap.size, 0, none⟩ (.bool k4.neg)).setCell ⟨w10.heap.size, 1, none⟩ (.slice k4.A k4.k k4.c)) w10.heap.size 25 #[.bool k4.neg, .slice k4.A k4.k k4.c] from (HBm.out.set_ 0 (.bool k4.neg)).set_ 1 (.slice k4.A k4.k k4.c)); have Hkn := Lib.hid ((Hk4.out.set (a := ⟨w10.heap.size, 0, none⟩) (Nat.lt_irrefl _) (.bool k4.neg)).set (a := ⟨w10.heap.size, 1, none⟩) (Nat.lt_irrefl _) (.slice k4.A k4.k k4.c)); replace HT := Lib.hid ((HT.out.set (a := ⟨w10.heap.size, 0, none⟩) (Nat.not_lt.2 (Nat.le_of_lt lw10)) (.bool k4.neg)).set (a := ⟨w10.heap.size, 1, none⟩) (Nat.not_lt.2 (Nat.le_of_lt lw10)) (.slice k4.A k4.k k4.c)); replace Hbel := Lib.hid ((Hbel.out.setCell (p := ⟨w10.heap.size, 0, none⟩) (Nat.le_of_lt lw10) (.bool k4.neg)).setCell (p := ⟨w10.heap.size, 1, none⟩) (Nat.le_of_lt lw10) (.slice k4.A k4.k k4.c)); generalize hWW : ((w15.setCell ⟨w10.heap.size, 0, none⟩ (.bool k4.neg)).setCell ⟨w10.heap.size, 1, none⟩ (.slice k4.A k4.k k4.c)) = W at *; generalize hgg : w10.heap.size = g at *; clear hWW hgg)
      | (have HBg := Lib.hid (Blk.new w15 25 #[.bool k4.neg, .slice k4.A k4.k k4.c]); have Hkn := Lib.hid (Hk4.out.alloc (.cells #[.bool k4.neg, .slice k4.A k4.k k4.c] 25)); replace HT := Lib.hid (HT.out.alloc (.cells #[.bool k4.neg, .slice k4.A k4.k k4.c] 25)); replace Hbel := Lib.hid (Hbel.out.alloc Hbel.out.size (.cells #[.bool k4.neg, .slice k4.A k4.k k4.c] 25)); generalize hWW : (w15.alloc (.cells #[.bool k4.neg, .slice k4.A k4.k k4.c] 25)) = W at *; generalize hgg : w15.heap.size = g at *; clear hWW hgg)
    have c0 : W.cell? ⟨g, 0, none⟩ = some (.bool k4.neg) := HBg.out.cell 0
    have c1 : W.cell? ⟨g, 1, none⟩ = some (.slice k4.A k4.k k4.c) := HBg.out.cell 1
    go_wp2_with fail
    go_region_held3 (fun W => W.cell? ⟨g, 0, none⟩ = some (.bool k4.neg) ∧ W.cell? ⟨g, 1, none⟩ = some (.slice k4.A k4.k k4.c)) (go_keep)
      (first
        | (go_at_call 10; go_must (refine (Htx4.out _ k4 (by first | exact Hkn.out.now | exact Hkn.out.drew.now | exact (Hkn.out.alloc _).now | exact (Hkn.out.drew.alloc _).now) (by first | exact HT.out.now | exact HT.out.drew.now | exact (HT.out.alloc _).now | exact (HT.out.drew.alloc _).now)).mono ?_; rintro e w16 ⟨rfl, hb16⟩; replace HBg := Lib.hid (Blk.below (by exact HBg.out) hb16 (by exact HBg.out.lt)); have sw16HBg0 : w16.cell? ⟨g, 0, none⟩ = some (.bool k4.neg) := HBg.out.cell 0; have sw16HBg1 : w16.cell? ⟨g, 1, none⟩ = some (.slice k4.A k4.k k4.c) := HBg.out.cell 1; replace HT := Lib.hid (Rests.below (φ := Tab) (by first | exact HT.out | exact HT.out.drew) hb16); replace Hbel := Lib.hid (Below.after (by first | exact Hbel.out | exact Below.drew Hbel.out) hb16); clear hb16))
        | (go_at_call 11; go_must (refine (awake_any _ (by first | exact HT.out.now | exact HT.out.drew.now | exact (HT.out.alloc _).now | exact (HT.out.drew.alloc _).now)).mono ?_; rintro e w17 ⟨rfl, hb17⟩; replace HBg := Lib.hid (Blk.below (by exact HBg.out) hb17 (by exact HBg.out.lt)); have sw17HBg0 : w17.cell? ⟨g, 0, none⟩ = some (.bool k4.neg) := HBg.out.cell 0; have sw17HBg1 : w17.cell? ⟨g, 1, none⟩ = some (.slice k4.A k4.k k4.c) := HBg.out.cell 1; replace Hbel := Lib.hid (Below.after (by first | exact Hbel.out | exact Below.drew Hbel.out) hb17); clear hb17)))
    all_goals
      go_wp2_with fail
      go_ret
      exact ⟨rfl, Hbel.out⟩

set_option maxRecDepth 100000 in
set_option maxHeartbeats 4000000 in
theorem back_no_neg (w : World) (i : IV) (z : Int) (s : ByteArray) (d : Nat) (hi : IntD i z 30 w) (hs : s.size ≤ 700) (hd : d < 256) (htab : Tab w) (hr : (parseN s.data.toList).1 ≠ 0) (hz : z < 0) :
    Calls Tryd.prog 6 #[.agg #[.bool i.neg, .slice i.A i.k i.c], .string s, .int .u8 (d : Int)] w fun e w' => e = .returned (.bool true) ∧ Below w.heap.size w w' := by
  have hik := hi.le
  have Hlt := Lib.hid hi.lt
  have Hsh := Lib.hid (short_of hi.lt)
  have hsg : z.sign = -1 := by exact Int.sign_eq_neg_one_of_neg hz
  have Hsg := Lib.hid hsg
  have Hz := Lib.hid hz
  have hs7 : ¬ (700 : Int) < (s.size : Int) := by omega
  obtain ⟨T, hT⟩ : ∃ T : ByteArray, T = ⟨(intText (decide (z < 0)) z.natAbs).toArray⟩ := ⟨_, rfl⟩
  have HTT := Lib.hid hT
  have HP1 := Lib.hid (fun W => parse_t W z (short_of hi.lt))
  rw [← hT] at HP1
  have Hst : Hid (∀ W, Calls Tryd.prog 12 #[.agg #[.bool i.neg, .slice i.A i.k i.c], .int .i64 30] W fun e w' => e = .returned (.bool true) ∧ Below W.heap.size W w') := fun W => by
    have h1 := shortInt_any W i.neg i.A i.k i.c 30
    rw [decide_eq_true hi.le] at h1; exact h1
  have Htx : Hid (∀ W, IntD i z 30 W → Tab W → Calls Tryd.prog 10 #[.agg #[.bool i.neg, .slice i.A i.k i.c]] W fun e w' => e = .returned (.string T) ∧ Below W.heap.size W w') := fun W h1 h2 => by
    have h3 := text_i h1 (by omega) h2
    rw [hT]; exact h3
  have HPs := Lib.hid (fun W => parse_any s W (by omega))
  have HBa := Lib.hid ((by have := Blk.new w 25 #[.bool i.neg, .slice i.A i.k i.c]; simpa using this : Blk (w.alloc (.cells #[.bool i.neg, .slice i.A i.k i.c] 25)) (w.heap.size) 25 #[.bool i.neg, .slice i.A i.k i.c]))
  have Hi := Lib.hid ((hi.old).alloc (.cells #[.bool i.neg, .slice i.A i.k i.c] 25))
  have HT := Lib.hid ((htab.old).alloc (.cells #[.bool i.neg, .slice i.A i.k i.c] 25))
  have Hbel := Lib.hid (show Below w.heap.size w (w.alloc (.cells #[.bool i.neg, .slice i.A i.k i.c] 25)) from ((Below.refl w.heap.size w).alloc (by simp; try omega) (.cells #[.bool i.neg, .slice i.A i.k i.c] 25)))
  have Hsg2 := Lib.hid (show (-z).sign = 1 from Int.sign_eq_one_of_pos (by omega))
  obtain ⟨T2, hT2⟩ : ∃ T2 : ByteArray, T2 = ⟨(Lib.decDigits z.natAbs).toArray⟩ := ⟨_, rfl⟩
  have hTl : (intText (decide (z < 0)) z.natAbs) = 45 :: Lib.decDigits z.natAbs := by unfold intText; rw [if_neg (by omega), decide_eq_true hz]; rfl
  have hT1 : 1 ≤ T.size := by rw [hT, size_str, hTl]; simp
  have HE := Lib.hid (show T.extract 1 T.size = T2 from by
    rw [hT2, hT, hTl]
    apply ByteArray.ext
    apply Array.ext'
    rw [Lib.extract_to_end]; rfl)
  clear hTl
  obtain ⟨dd, hdd⟩ : ∃ dd, dd = d % 10 := ⟨_, rfl⟩
  have hd10 : dd < 10 := by omega
  have e1 : (d : Int) % 10 = (dd : Int) := by omega
  have e2 : (d : Int).tmod 10 = (dd : Int) := by rw [Int.tmod_eq_emod_of_nonneg (by omega)]; exact e1
  have e3 : IntKind.u8.wrap (dd : Int) = (dd : Int) := by simp [IntKind.wrap, IntKind.signed, IntKind.bits]; omega
  have e4 : IntKind.i64.wrap (dd : Int) = (dd : Int) := IntWalk.i64_in _ (by omega)
  have e5 : IntKind.u8.wrap ((dd : Int) + 1) = (dd : Int) + 1 := by simp [IntKind.wrap, IntKind.signed, IntKind.bits]; omega
  have HL3 := Lib.hid (show ((-z) * 10).natAbs < B64 ^ 31 from by
    have h5 := hi.lt
    rw [Int.natAbs_mul, Int.natAbs_neg, Nat.pow_succ]
    exact Nat.mul_lt_mul_of_lt_of_le h5 (show (10 : Int).natAbs ≤ B64 by decide) B64_pos)
  have HL4 := Lib.hid (show ((-z) * 10 + (dd : Nat)).natAbs < B64 ^ 32 from by
    have h5 := HL3.out
    have h6 : B64 ^ 31 * 2 ≤ B64 ^ 32 := by rw [Nat.pow_succ]; exact Nat.mul_le_mul_left _ (by decide)
    have h7 : B64 ^ 1 ≤ B64 ^ 31 := Nat.pow_le_pow_right B64_pos (by decide)
    have h8 : 10 ≤ B64 ^ 1 := by decide
    omega)
  have HLd := Lib.hid (show ((dd : Nat) : Int).natAbs < B64 ^ 1 from by simp only [B64]; omega)
  have hdg := dig10 dd hd10
  have Hmul := Lib.hid (fun (W : World) (a k : IV) (h1 : IntD a (-z) 30 W) (h2 : IntN k 10 W) => wmul_any W a k (-z) 10 30 1 (by omega) (by omega) h1 (h2.ofLt (by decide)))
  have Hadd := Lib.hid (fun (W : World) (a k : IV) (h1 : IntN a ((-z) * 10) W) (h2 : IntN k (dd : Nat) W) => wadd_any W a k ((-z) * 10) (dd : Nat) 31 1 (by omega) (by omega) (h1.ofLt HL3.out) (h2.ofLt HLd.out))
  have hTs : T2.size ≤ 700 := by
    rw [hT2, size_str]
    have h5 := dec_length (short_of hi.lt) (by decide)
    omega
  have Htx4 := Lib.hid (fun (W : World) (k : IV) (h1 : IntN k ((-z) * 10 + (dd : Nat)) W) (h2 : Tab W) => (show Calls Tryd.prog 10 #[.agg #[.bool k.neg, .slice k.A k.k k.c]] W fun e w' => e = .returned (.string (T2 ++ ⟨#[UInt8.ofNat (48 + dd)]⟩)) ∧ Below W.heap.size W w' from by
    have h5 := text_i (h1.ofLt (n := 32) HL4.out) (by omega) h2
    have h6 : intText (decide ((-z) * 10 + (dd : Nat) < 0)) ((-z) * 10 + (dd : Nat)).natAbs = Lib.decDigits z.natAbs ++ [UInt8.ofNat (48 + dd)] := by
      rw [decide_eq_false (by omega), show ((-z) * 10 + (dd : Nat)).natAbs = z.natAbs * 10 + dd by omega]
      exact text_more _ _ (by omega) hd10
    have h7 : T2 ++ (⟨#[UInt8.ofNat (48 + dd)]⟩ : ByteArray) = ⟨(Lib.decDigits z.natAbs ++ [UInt8.ofNat (48 + dd)]).toArray⟩ := by
      rw [hT2]
      
      apply ByteArray.ext
      simp [ByteArray.data_append]
    rw [h6] at h5
    rw [h7]; exact h5))
  obtain ⟨D, hD⟩ : ∃ D : ByteArray, D = ⟨#[UInt8.ofNat (48 + dd)]⟩ := ⟨_, rfl⟩
  have hDs : D.size = 1 := by rw [hD]; rfl
  rw [← hD] at hdg Htx4
  clear hD
  have hcat := fun (W : World) => run_string_add_sum (P := Tryd.prog) W T2 D (by omega)
  have hno : ¬ 9223372036854775807 < T2.size + 1 := by omega
  have hno2 : ¬ 9223372036854775807 ≤ T2.size := by omega
  have Hof1 := Lib.hid (fun W => wof_any W 10 (by decide) (by decide))
  have Hof2 := Lib.hid (fun W => wof_any W (dd : Nat) (by omega) (by omega))
  clear hdd
  clear hi htab hz hsg hs hT hT2
  generalize hR : parseN s.data.toList = R at *
  obtain ⟨re, rn, rv⟩ := R
  have hre : ((re : Int) == 0) = false := by simpa using hr
  clear hR
  go_enter Tryd.func6, Tryd.ntmps6
  go_wp2_with fail
  refine (Hst.out _).mono ?_
  rintro e w1 ⟨rfl, hb1⟩
  replace HBa := Lib.hid (Blk.below (by exact HBa.out) hb1 (by exact HBa.out.lt))
  have sw1HBa0 : w1.cell? ⟨w.heap.size, 0, none⟩ = some (.bool i.neg) := HBa.out.cell 0
  have sw1HBa1 : w1.cell? ⟨w.heap.size, 1, none⟩ = some (.slice i.A i.k i.c) := HBa.out.cell 1
  replace Hi := Lib.hid (Rests.below (φ := IntD i z 30) (by first | exact Hi.out | exact Hi.out.drew) hb1)
  replace HT := Lib.hid (Rests.below (φ := Tab) (by first | exact HT.out | exact HT.out.drew) hb1)
  replace Hbel := Lib.hid (Below.after (by first | exact Hbel.out | exact Below.drew Hbel.out) hb1)
  clear hb1
  go_wp2_with fail
  refine (Htx.out _ (by first | exact Hi.out.now | exact Hi.out.drew.now) (by first | exact HT.out.now | exact HT.out.drew.now)).mono ?_
  rintro e w2 ⟨rfl, hb2⟩
  replace HBa := Lib.hid (Blk.below (by exact HBa.out) hb2 (by exact HBa.out.lt))
  have sw2HBa0 : w2.cell? ⟨w.heap.size, 0, none⟩ = some (.bool i.neg) := HBa.out.cell 0
  have sw2HBa1 : w2.cell? ⟨w.heap.size, 1, none⟩ = some (.slice i.A i.k i.c) := HBa.out.cell 1
  replace Hi := Lib.hid (Rests.below (φ := IntD i z 30) (by first | exact Hi.out | exact Hi.out.drew) hb2)
  replace HT := Lib.hid (Rests.below (φ := Tab) (by first | exact HT.out | exact HT.out.drew) hb2)
  replace Hbel := Lib.hid (Below.after (by first | exact Hbel.out | exact Below.drew Hbel.out) hb2)
  clear hb2
  go_wp2_with fail
  refine (HP1.out _).mono ?_
  rintro e w3 ⟨j, rfl, hj, hb3⟩
  replace HBa := Lib.hid (Blk.below (by exact HBa.out) hb3 (by exact HBa.out.lt))
  have sw3HBa0 : w3.cell? ⟨w.heap.size, 0, none⟩ = some (.bool i.neg) := HBa.out.cell 0
  have sw3HBa1 : w3.cell? ⟨w.heap.size, 1, none⟩ = some (.slice i.A i.k i.c) := HBa.out.cell 1
  replace Hi := Lib.hid (Rests.below (φ := IntD i z 30) (by first | exact Hi.out | exact Hi.out.drew) hb3)
  replace HT := Lib.hid (Rests.below (φ := Tab) (by first | exact HT.out | exact HT.out.drew) hb3)
  replace Hbel := Lib.hid (Below.after (by first | exact Hbel.out | exact Below.drew Hbel.out) hb3)
  have Hj := Lib.hid hj.old
  clear hj
  clear hb3
  replace HBa := Lib.hid (HBa.out.alloc (.cells #[.bool j.neg, .slice j.A j.k j.c] 25))
  replace Hi := Lib.hid (Hi.out.alloc (.cells #[.bool j.neg, .slice j.A j.k j.c] 25))
  replace HT := Lib.hid (HT.out.alloc (.cells #[.bool j.neg, .slice j.A j.k j.c] 25))
  replace Hj := Lib.hid (Hj.out.alloc (.cells #[.bool j.neg, .slice j.A j.k j.c] 25))
  replace Hbel := Lib.hid (Hbel.out.alloc Hbel.out.size (.cells #[.bool j.neg, .slice j.A j.k j.c] 25))
  have HBb := Lib.hid (Blk.new w3 25 #[.bool j.neg, .slice j.A j.k j.c])
  have pHBa0 : World.cell? _ ⟨w.heap.size, 0, none⟩ = some (.bool i.neg) := HBa.out.cell 0
  have pHBa1 : World.cell? _ ⟨w.heap.size, 1, none⟩ = some (.slice i.A i.k i.c) := HBa.out.cell 1
  have pHBb0 : World.cell? _ ⟨w3.heap.size, 0, none⟩ = some (.bool j.neg) := HBb.out.cell 0
  have pHBb1 : World.cell? _ ⟨w3.heap.size, 1, none⟩ = some (.slice j.A j.k j.c) := HBb.out.cell 1
  have n34 : w3.heap.size ≠ w.heap.size := by have := HBa.out.lt; have h2 := Hbel.out.size; have h3 := sw3HBa0; have h4 := World.block_lt_of_cell? w3 _ sw3HBa0; simp at h4; omega
  go_wp2_with fail
  go_region_held3 (fun W => W.cell? ⟨w.heap.size, 0, none⟩ = some (.bool i.neg) ∧ W.cell? ⟨w.heap.size, 1, none⟩ = some (.slice i.A i.k i.c) ∧ W.cell? ⟨w3.heap.size, 0, none⟩ = some (.bool j.neg) ∧ W.cell? ⟨w3.heap.size, 1, none⟩ = some (.slice j.A j.k j.c)) (go_keep)
    (first
      | (go_at_call 22; go_must (refine (wnorm_any _ i z 30 (by omega) (by first | exact Hi.out.now | exact Hi.out.drew.now)).mono ?_; rintro e w4 ⟨k, rfl, hk, hb4⟩; replace HBa := Lib.hid (Blk.below (by exact HBa.out) hb4 (by exact HBa.out.lt)); have sw4HBa0 : w4.cell? ⟨w.heap.size, 0, none⟩ = some (.bool i.neg) := HBa.out.cell 0; have sw4HBa1 : w4.cell? ⟨w.heap.size, 1, none⟩ = some (.slice i.A i.k i.c) := HBa.out.cell 1; replace HBb := Lib.hid (Blk.below (by exact HBb.out) hb4 (by exact HBb.out.lt)); have sw4HBb0 : w4.cell? ⟨w3.heap.size, 0, none⟩ = some (.bool j.neg) := HBb.out.cell 0; have sw4HBb1 : w4.cell? ⟨w3.heap.size, 1, none⟩ = some (.slice j.A j.k j.c) := HBb.out.cell 1; replace Hi := Lib.hid (Rests.below (φ := IntD i z 30) (by first | exact Hi.out | exact Hi.out.drew) hb4); replace HT := Lib.hid (Rests.below (φ := Tab) (by first | exact HT.out | exact HT.out.drew) hb4); replace Hj := Lib.hid (Rests.below (φ := IntN j z) (by first | exact Hj.out | exact Hj.out.drew) hb4); replace Hbel := Lib.hid (Below.after (by first | exact Hbel.out | exact Below.drew Hbel.out) hb4); have Hk := Lib.hid hk; clear hk; clear hb4))
      | (go_at_call 16; go_must (refine (sameInt_n (i := j) (j := k) (z := z) (by first | exact Hj.out.now | exact Hj.out.drew.now) (by first | exact Hk.out.now | exact Hk.out.drew.now) Hsh.out).mono ?_; rintro e w5 ⟨rfl, hb5⟩; replace HBa := Lib.hid (Blk.below (by exact HBa.out) hb5 (by exact HBa.out.lt)); have sw5HBa0 : w5.cell? ⟨w.heap.size, 0, none⟩ = some (.bool i.neg) := HBa.out.cell 0; have sw5HBa1 : w5.cell? ⟨w.heap.size, 1, none⟩ = some (.slice i.A i.k i.c) := HBa.out.cell 1; replace HBb := Lib.hid (Blk.below (by exact HBb.out) hb5 (by exact HBb.out.lt)); have sw5HBb0 : w5.cell? ⟨w3.heap.size, 0, none⟩ = some (.bool j.neg) := HBb.out.cell 0; have sw5HBb1 : w5.cell? ⟨w3.heap.size, 1, none⟩ = some (.slice j.A j.k j.c) := HBb.out.cell 1; replace Hi := Lib.hid (Rests.below (φ := IntD i z 30) (by first | exact Hi.out | exact Hi.out.drew) hb5); replace HT := Lib.hid (Rests.below (φ := Tab) (by first | exact HT.out | exact HT.out.drew) hb5); replace Hbel := Lib.hid (Below.after (by first | exact Hbel.out | exact Below.drew Hbel.out) hb5); clear hb5)))
  go_wp2_with fail
  refine (HPs.out _).mono ?_
  rintro e w6 ⟨Ac, cc, rfl, hcc, hrc, hb6⟩
  replace HBa := Lib.hid (Blk.below (by exact HBa.out) hb6 (by exact HBa.out.lt))
  have sw6HBa0 : w6.cell? ⟨w.heap.size, 0, none⟩ = some (.bool i.neg) := HBa.out.cell 0
  have sw6HBa1 : w6.cell? ⟨w.heap.size, 1, none⟩ = some (.slice i.A i.k i.c) := HBa.out.cell 1
  replace Hi := Lib.hid (Rests.below (φ := IntD i z 30) (by first | exact Hi.out | exact Hi.out.drew) hb6)
  replace HT := Lib.hid (Rests.below (φ := Tab) (by first | exact HT.out | exact HT.out.drew) hb6)
  replace Hbel := Lib.hid (Below.after (by first | exact Hbel.out | exact Below.drew Hbel.out) hb6)
  have Hrc := Lib.hid (rests_rd (F := (· < w6.heap.size)) hrc (fun k hk => hrc.lt k hk))
  clear hrc hcc
  clear hb6
  replace HBa := Lib.hid (HBa.out.alloc (.cells #[.bool rn, .slice Ac (digs B64 rv).length cc] 25))
  replace Hi := Lib.hid (Hi.out.alloc (.cells #[.bool rn, .slice Ac (digs B64 rv).length cc] 25))
  replace HT := Lib.hid (HT.out.alloc (.cells #[.bool rn, .slice Ac (digs B64 rv).length cc] 25))
  replace Hrc := Lib.hid (Hrc.out.alloc (.cells #[.bool rn, .slice Ac (digs B64 rv).length cc] 25))
  replace Hbel := Lib.hid (Hbel.out.alloc Hbel.out.size (.cells #[.bool rn, .slice Ac (digs B64 rv).length cc] 25))
  have HBc := Lib.hid (Blk.new w6 25 #[.bool rn, .slice Ac (digs B64 rv).length cc])
  have rHBa0 : World.cell? _ ⟨w.heap.size, 0, none⟩ = some (.bool i.neg) := HBa.out.cell 0
  have rHBa1 : World.cell? _ ⟨w.heap.size, 1, none⟩ = some (.slice i.A i.k i.c) := HBa.out.cell 1
  have rHBc0 : World.cell? _ ⟨w6.heap.size, 0, none⟩ = some (.bool rn) := HBc.out.cell 0
  have rHBc1 : World.cell? _ ⟨w6.heap.size, 1, none⟩ = some (.slice Ac (digs B64 rv).length cc) := HBc.out.cell 1
  go_wp2_with fail
  refine (wsign_any _ i z 30 (by omega) (by first | exact Hi.out.now | exact Hi.out.drew.now)).mono ?_
  rintro e w8 ⟨rfl, hb8⟩
  replace HBa := Lib.hid (Blk.below (by exact HBa.out) hb8 (by exact HBa.out.lt))
  have sw8HBa0 : w8.cell? ⟨w.heap.size, 0, none⟩ = some (.bool i.neg) := HBa.out.cell 0
  have sw8HBa1 : w8.cell? ⟨w.heap.size, 1, none⟩ = some (.slice i.A i.k i.c) := HBa.out.cell 1
  replace Hi := Lib.hid (Rests.below (φ := IntD i z 30) (by first | exact Hi.out | exact Hi.out.drew) hb8)
  replace HT := Lib.hid (Rests.below (φ := Tab) (by first | exact HT.out | exact HT.out.drew) hb8)
  replace Hbel := Lib.hid (Below.after (by first | exact Hbel.out | exact Below.drew Hbel.out) hb8)
  clear hb8
  rw [Hsg.out]
  go_wp2_with fail
  refine (wneg_any _ i z 30 (by omega) (by first | exact Hi.out.now | exact Hi.out.drew.now)).mono ?_
  rintro e w9 ⟨i2, rfl, hi2, hb9⟩
  have hgl := HBa.out.lt
  replace HBa := Lib.hid (Blk.below (by exact HBa.out) hb9 (by exact HBa.out.lt))
  have sw9HBa0 : w9.cell? ⟨w.heap.size, 0, none⟩ = some (.bool i.neg) := HBa.out.cell 0
  have sw9HBa1 : w9.cell? ⟨w.heap.size, 1, none⟩ = some (.slice i.A i.k i.c) := HBa.out.cell 1
  replace HT := Lib.hid (Rests.below (φ := Tab) (by first | exact HT.out | exact HT.out.drew) hb9)
  replace Hbel := Lib.hid (Below.after (by first | exact Hbel.out | exact Below.drew Hbel.out) hb9)
  have fa0 : w9.frozen? ⟨w.heap.size, 0, none⟩ = false := HBa.out.frozen 0
  have fa1 : w9.frozen? ⟨w.heap.size, 1, none⟩ = false := HBa.out.frozen 1
  have Hi2 := Lib.hid (hi2.imp (ψ := IntD i2 (-z) 30) (fun W hW => hW.ofLt (by rw [Int.natAbs_neg] <;> exact Hlt.out)) |>.mono (G := (w.heap.size + 1 ≤ ·)) (fun b hb => Nat.le_trans hgl hb))
  clear hi2 hgl
  clear hb9
  replace HBa := Lib.hid (((HBa.out).set_ 0 (.bool i2.neg)).set_ 1 (.slice i2.A i2.k i2.c))
  replace HT := Lib.hid (((HT.out).set (a := ⟨w.heap.size, 0, none⟩) (by simp) (.bool i2.neg)).set (a := ⟨w.heap.size, 1, none⟩) (by simp) (.slice i2.A i2.k i2.c))
  replace Hi2 := Lib.hid (((Hi2.out).set (a := ⟨w.heap.size, 0, none⟩) (by simp) (.bool i2.neg)).set (a := ⟨w.heap.size, 1, none⟩) (by simp) (.slice i2.A i2.k i2.c))
  replace Hbel := Lib.hid (((Hbel.out).setCell (p := ⟨w.heap.size, 0, none⟩) (by simp) (.bool i2.neg)).setCell (p := ⟨w.heap.size, 1, none⟩) (by simp) (.slice i2.A i2.k i2.c))
  have vHBa0 : World.cell? _ ⟨w.heap.size, 0, none⟩ = some (.bool i2.neg) := HBa.out.cell 0
  have vHBa1 : World.cell? _ ⟨w.heap.size, 1, none⟩ = some (.slice i2.A i2.k i2.c) := HBa.out.cell 1
  go_wp2_with fail
  rw [HE.out]
  refine (wsign_any _ i2 (-z) 30 (by omega) (by first | exact Hi2.out.now | exact Hi2.out.drew.now)).mono ?_
  rintro e w10 ⟨rfl, hb10⟩
  replace HBa := Lib.hid (Blk.below (by exact HBa.out) hb10 (by exact HBa.out.lt))
  have sw10HBa0 : w10.cell? ⟨w.heap.size, 0, none⟩ = some (.bool i2.neg) := HBa.out.cell 0
  have sw10HBa1 : w10.cell? ⟨w.heap.size, 1, none⟩ = some (.slice i2.A i2.k i2.c) := HBa.out.cell 1
  replace HT := Lib.hid (Rests.below (φ := Tab) (by first | exact HT.out | exact HT.out.drew) hb10)
  replace Hi2 := Lib.hid (Rests.below (φ := IntD i2 (-z) 30) (by first | exact Hi2.out | exact Hi2.out.drew) hb10)
  replace Hbel := Lib.hid (Below.after (by first | exact Hbel.out | exact Below.drew Hbel.out) hb10)
  clear hb10
  rw [Hsg2.out]
  have lw10 : w.heap.size < w10.heap.size := HBa.out.lt
  have zw10 : w10.heap.size ≠ w.heap.size := Nat.ne_of_gt HBa.out.lt
  have yw10 : w.heap.size ≠ w10.heap.size := Nat.ne_of_lt HBa.out.lt
  go_wp2_with fail
  go_region_held3 (fun W => W.cell? ⟨w.heap.size, 0, none⟩ = some (.bool i2.neg) ∧ W.cell? ⟨w.heap.size, 1, none⟩ = some (.slice i2.A i2.k i2.c)) (go_keep)
    (first
      | (go_at_call_of 27 (Value.int .i64 10); go_must (refine (Hof1.out _).mono ?_; rintro e w12 ⟨k1, rfl, hk1, hb12⟩; (first | (have HBm := Lib.hid (Blk.below (Blk.new _ 25 #[.bool false, .slice none 0 0]) hb12 (by simp))) | (have HBm := Lib.hid (Blk.below (show Blk (World.drew (World.alloc _ (.cells #[.bool false, .slice none 0 0] 25))) _ 25 #[.bool false, .slice none 0 0] from Blk.new _ 25 #[.bool false, .slice none 0 0]) hb12 (by simp))) | (replace HBm := Lib.hid (Blk.below (by exact HBm.out) hb12 (by exact HBm.out.lt))) | skip); (try (have mw120 := HBm.out.cell 0; have mw121 := HBm.out.cell 1; have nw120 := HBm.out.frozen 0; have nw121 := HBm.out.frozen 1; simp at mw120 mw121 nw120 nw121)); replace HBa := Lib.hid (Blk.below (by first | exact HBa.out | exact HBa.out.alloc _) hb12 (by first | exact HBa.out.lt | exact (HBa.out.alloc _).lt)); have sw12HBa0 : w12.cell? ⟨w.heap.size, 0, none⟩ = some (.bool i2.neg) := HBa.out.cell 0; have sw12HBa1 : w12.cell? ⟨w.heap.size, 1, none⟩ = some (.slice i2.A i2.k i2.c) := HBa.out.cell 1; replace HT := Lib.hid (Rests.below (φ := Tab) (by first | exact HT.out | exact HT.out.drew | exact HT.out.alloc _ | exact HT.out.drew.alloc _) hb12); replace Hi2 := Lib.hid (Rests.below (φ := IntD i2 (-z) 30) (by first | exact Hi2.out | exact Hi2.out.drew | exact Hi2.out.alloc _ | exact Hi2.out.drew.alloc _) hb12); replace Hbel := Lib.hid (Below.after (by first | exact Hbel.out | exact Below.drew Hbel.out | exact Hbel.out.alloc Hbel.out.size _ | exact (Below.drew Hbel.out).alloc Hbel.out.size _) hb12); have Hk1 := Lib.hid hk1; clear hk1; (try replace Hk2 := Lib.hid (Rests.below (φ := IntN k2 (dd : Nat)) (by first | exact Hk2.out | exact Hk2.out.drew | exact Hk2.out.alloc _ | exact Hk2.out.drew.alloc _) hb12)); (try replace Hk3 := Lib.hid (Rests.below (φ := IntN k3 ((-z) * 10)) (by first | exact Hk3.out | exact Hk3.out.drew | exact Hk3.out.alloc _ | exact Hk3.out.drew.alloc _) hb12)); have lw12 : w.heap.size < w12.heap.size := HBa.out.lt; have zw12 : w12.heap.size ≠ w.heap.size := Nat.ne_of_gt HBa.out.lt; have yw12 : w.heap.size ≠ w12.heap.size := Nat.ne_of_lt HBa.out.lt; clear hb12))
      | (go_at_call_of 27 (Value.int .i64 (dd : Int)); go_must (refine (Hof2.out _).mono ?_; rintro e w13 ⟨k2, rfl, hk2, hb13⟩; (first | (have HBm := Lib.hid (Blk.below (Blk.new _ 25 #[.bool false, .slice none 0 0]) hb13 (by simp))) | (have HBm := Lib.hid (Blk.below (show Blk (World.drew (World.alloc _ (.cells #[.bool false, .slice none 0 0] 25))) _ 25 #[.bool false, .slice none 0 0] from Blk.new _ 25 #[.bool false, .slice none 0 0]) hb13 (by simp))) | (replace HBm := Lib.hid (Blk.below (by exact HBm.out) hb13 (by exact HBm.out.lt))) | skip); (try (have mw130 := HBm.out.cell 0; have mw131 := HBm.out.cell 1; have nw130 := HBm.out.frozen 0; have nw131 := HBm.out.frozen 1; simp at mw130 mw131 nw130 nw131)); replace HBa := Lib.hid (Blk.below (by first | exact HBa.out | exact HBa.out.alloc _) hb13 (by first | exact HBa.out.lt | exact (HBa.out.alloc _).lt)); have sw13HBa0 : w13.cell? ⟨w.heap.size, 0, none⟩ = some (.bool i2.neg) := HBa.out.cell 0; have sw13HBa1 : w13.cell? ⟨w.heap.size, 1, none⟩ = some (.slice i2.A i2.k i2.c) := HBa.out.cell 1; replace HT := Lib.hid (Rests.below (φ := Tab) (by first | exact HT.out | exact HT.out.drew | exact HT.out.alloc _ | exact HT.out.drew.alloc _) hb13); replace Hi2 := Lib.hid (Rests.below (φ := IntD i2 (-z) 30) (by first | exact Hi2.out | exact Hi2.out.drew | exact Hi2.out.alloc _ | exact Hi2.out.drew.alloc _) hb13); replace Hbel := Lib.hid (Below.after (by first | exact Hbel.out | exact Below.drew Hbel.out | exact Hbel.out.alloc Hbel.out.size _ | exact (Below.drew Hbel.out).alloc Hbel.out.size _) hb13); have Hk2 := Lib.hid hk2; clear hk2; (try replace Hk1 := Lib.hid (Rests.below (φ := IntN k1 10) (by first | exact Hk1.out | exact Hk1.out.drew | exact Hk1.out.alloc _ | exact Hk1.out.drew.alloc _) hb13)); (try replace Hk3 := Lib.hid (Rests.below (φ := IntN k3 ((-z) * 10)) (by first | exact Hk3.out | exact Hk3.out.drew | exact Hk3.out.alloc _ | exact Hk3.out.drew.alloc _) hb13)); have lw13 : w.heap.size < w13.heap.size := HBa.out.lt; have zw13 : w13.heap.size ≠ w.heap.size := Nat.ne_of_gt HBa.out.lt; have yw13 : w.heap.size ≠ w13.heap.size := Nat.ne_of_lt HBa.out.lt; clear hb13))
      | (go_at_call 26; go_must (refine (Hmul.out _ i2 k1 (by first | exact Hi2.out.now | exact Hi2.out.drew.now | exact (Hi2.out.alloc _).now | exact (Hi2.out.drew.alloc _).now) (by first | exact Hk1.out.now | exact Hk1.out.drew.now | exact (Hk1.out.alloc _).now | exact (Hk1.out.drew.alloc _).now)).mono ?_; rintro e w14 ⟨k3, rfl, hk3, hb14⟩; (first | (have HBm := Lib.hid (Blk.below (Blk.new _ 25 #[.bool false, .slice none 0 0]) hb14 (by simp))) | (have HBm := Lib.hid (Blk.below (show Blk (World.drew (World.alloc _ (.cells #[.bool false, .slice none 0 0] 25))) _ 25 #[.bool false, .slice none 0 0] from Blk.new _ 25 #[.bool false, .slice none 0 0]) hb14 (by simp))) | (replace HBm := Lib.hid (Blk.below (by exact HBm.out) hb14 (by exact HBm.out.lt))) | skip); (try (have mw140 := HBm.out.cell 0; have mw141 := HBm.out.cell 1; have nw140 := HBm.out.frozen 0; have nw141 := HBm.out.frozen 1; simp at mw140 mw141 nw140 nw141)); replace HBa := Lib.hid (Blk.below (by first | exact HBa.out | exact HBa.out.alloc _) hb14 (by first | exact HBa.out.lt | exact (HBa.out.alloc _).lt)); have sw14HBa0 : w14.cell? ⟨w.heap.size, 0, none⟩ = some (.bool i2.neg) := HBa.out.cell 0; have sw14HBa1 : w14.cell? ⟨w.heap.size, 1, none⟩ = some (.slice i2.A i2.k i2.c) := HBa.out.cell 1; replace HT := Lib.hid (Rests.below (φ := Tab) (by first | exact HT.out | exact HT.out.drew | exact HT.out.alloc _ | exact HT.out.drew.alloc _) hb14); replace Hi2 := Lib.hid (Rests.below (φ := IntD i2 (-z) 30) (by first | exact Hi2.out | exact Hi2.out.drew | exact Hi2.out.alloc _ | exact Hi2.out.drew.alloc _) hb14); replace Hbel := Lib.hid (Below.after (by first | exact Hbel.out | exact Below.drew Hbel.out | exact Hbel.out.alloc Hbel.out.size _ | exact (Below.drew Hbel.out).alloc Hbel.out.size _) hb14); have Hk3 := Lib.hid hk3; clear hk3; (try replace Hk1 := Lib.hid (Rests.below (φ := IntN k1 10) (by first | exact Hk1.out | exact Hk1.out.drew | exact Hk1.out.alloc _ | exact Hk1.out.drew.alloc _) hb14)); (try replace Hk2 := Lib.hid (Rests.below (φ := IntN k2 (dd : Nat)) (by first | exact Hk2.out | exact Hk2.out.drew | exact Hk2.out.alloc _ | exact Hk2.out.drew.alloc _) hb14)); have lw14 : w.heap.size < w14.heap.size := HBa.out.lt; have zw14 : w14.heap.size ≠ w.heap.size := Nat.ne_of_gt HBa.out.lt; have yw14 : w.heap.size ≠ w14.heap.size := Nat.ne_of_lt HBa.out.lt; clear hb14))
      | (go_at_call 25; go_must (refine (Hadd.out _ k3 k2 (by first | exact Hk3.out.now | exact Hk3.out.drew.now | exact (Hk3.out.alloc _).now | exact (Hk3.out.drew.alloc _).now) (by first | exact Hk2.out.now | exact Hk2.out.drew.now | exact (Hk2.out.alloc _).now | exact (Hk2.out.drew.alloc _).now)).mono ?_; rintro e w15 ⟨k4, rfl, hk4, hb15⟩; (try (have hgm := HBm.out.lt)); (first | (have HBm := Lib.hid (Blk.below (Blk.new _ 25 #[.bool false, .slice none 0 0]) hb15 (by simp))) | (have HBm := Lib.hid (Blk.below (show Blk (World.drew (World.alloc _ (.cells #[.bool false, .slice none 0 0] 25))) _ 25 #[.bool false, .slice none 0 0] from Blk.new _ 25 #[.bool false, .slice none 0 0]) hb15 (by simp))) | (replace HBm := Lib.hid (Blk.below (by exact HBm.out) hb15 (by exact HBm.out.lt))) | skip); (try (have mw150 := HBm.out.cell 0; have mw151 := HBm.out.cell 1; have nw150 := HBm.out.frozen 0; have nw151 := HBm.out.frozen 1; simp at mw150 mw151 nw150 nw151)); replace HBa := Lib.hid (Blk.below (by first | exact HBa.out | exact HBa.out.alloc _) hb15 (by first | exact HBa.out.lt | exact (HBa.out.alloc _).lt)); have sw15HBa0 : w15.cell? ⟨w.heap.size, 0, none⟩ = some (.bool i2.neg) := HBa.out.cell 0; have sw15HBa1 : w15.cell? ⟨w.heap.size, 1, none⟩ = some (.slice i2.A i2.k i2.c) := HBa.out.cell 1; replace HT := Lib.hid (Rests.below (φ := Tab) (by first | exact HT.out | exact HT.out.drew | exact HT.out.alloc _ | exact HT.out.drew.alloc _) hb15); replace Hi2 := Lib.hid (Rests.below (φ := IntD i2 (-z) 30) (by first | exact Hi2.out | exact Hi2.out.drew | exact Hi2.out.alloc _ | exact Hi2.out.drew.alloc _) hb15); replace Hbel := Lib.hid (Below.after (by first | exact Hbel.out | exact Below.drew Hbel.out | exact Hbel.out.alloc Hbel.out.size _ | exact (Below.drew Hbel.out).alloc Hbel.out.size _) hb15); (first | (have Hk4 := Lib.hid (hk4.mono (fun b hb => Nat.lt_of_lt_of_le hgm hb))) | (have Hk4 := Lib.hid (hk4.mono (fun b hb => Nat.lt_of_lt_of_le (alloc_lt _ _) hb))) | (have Hk4 := Lib.hid hk4)); clear hk4; (try replace Hk1 := Lib.hid (Rests.below (φ := IntN k1 10) (by first | exact Hk1.out | exact Hk1.out.drew | exact Hk1.out.alloc _ | exact Hk1.out.drew.alloc _) hb15)); (try replace Hk2 := Lib.hid (Rests.below (φ := IntN k2 (dd : Nat)) (by first | exact Hk2.out | exact Hk2.out.drew | exact Hk2.out.alloc _ | exact Hk2.out.drew.alloc _) hb15)); (try replace Hk3 := Lib.hid (Rests.below (φ := IntN k3 ((-z) * 10)) (by first | exact Hk3.out | exact Hk3.out.drew | exact Hk3.out.alloc _ | exact Hk3.out.drew.alloc _) hb15)); have lw15 : w.heap.size < w15.heap.size := HBa.out.lt; have zw15 : w15.heap.size ≠ w.heap.size := Nat.ne_of_gt HBa.out.lt; have yw15 : w.heap.size ≠ w15.heap.size := Nat.ne_of_lt HBa.out.lt; clear hb15)))
  all_goals
    go_wp2_with fail
    first
      | (have HBg := Lib.hid (show Blk ((w15.setCell ⟨w13.heap.size, 0, none⟩ (.bool k4.neg)).setCell ⟨w13.heap.size, 1, none⟩ (.slice k4.A k4.k k4.c)) w13.heap.size 25 #[.bool k4.neg, .slice k4.A k4.k k4.c] from (HBm.out.set_ 0 (.bool k4.neg)).set_ 1 (.slice k4.A k4.k k4.c)); have Hkn := Lib.hid ((Hk4.out.set (a := ⟨w13.heap.size, 0, none⟩) (Nat.lt_irrefl _) (.bool k4.neg)).set (a := ⟨w13.heap.size, 1, none⟩) (Nat.lt_irrefl _) (.slice k4.A k4.k k4.c)); replace HT := Lib.hid ((HT.out.set (a := ⟨w13.heap.size, 0, none⟩) (Nat.not_lt.2 (Nat.le_of_lt lw13)) (.bool k4.neg)).set (a := ⟨w13.heap.size, 1, none⟩) (Nat.not_lt.2 (Nat.le_of_lt lw13)) (.slice k4.A k4.k k4.c)); replace Hbel := Lib.hid ((Hbel.out.setCell (p := ⟨w13.heap.size, 0, none⟩) (Nat.le_of_lt lw13) (.bool k4.neg)).setCell (p := ⟨w13.heap.size, 1, none⟩) (Nat.le_of_lt lw13) (.slice k4.A k4.k k4.c)); generalize hWW : ((w15.setCell ⟨w13.heap.size, 0, none⟩ (.bool k4.neg)).setCell ⟨w13.heap.size, 1, none⟩ (.slice k4.A k4.k k4.c)) = W at *; generalize hgg : w13.heap.size = g at *; clear hWW hgg)
      | (have HBg := Lib.hid (show Blk ((w15.setCell ⟨w14.heap.size, 0, none⟩ (.bool k4.neg)).setCell ⟨w14.heap.size, 1, none⟩ (.slice k4.A k4.k k4.c)) w14.heap.size 25 #[.bool k4.neg, .slice k4.A k4.k k4.c] from (HBm.out.set_ 0 (.bool k4.neg)).set_ 1 (.slice k4.A k4.k k4.c)); have Hkn := Lib.hid ((Hk4.out.set (a := ⟨w14.heap.size, 0, none⟩) (Nat.lt_irrefl _) (.bool k4.neg)).set (a := ⟨w14.heap.size, 1, none⟩) (Nat.lt_irrefl _) (.slice k4.A k4.k k4.c)); replace HT := Lib.hid ((HT.out.set (a := ⟨w14.heap.size, 0, none⟩) (Nat.not_lt.2 (Nat.le_of_lt lw14)) (.bool k4.neg)).set (a := ⟨w14.heap.size, 1, none⟩) (Nat.not_lt.2 (Nat.le_of_lt lw14)) (.slice k4.A k4.k k4.c)); replace Hbel := Lib.hid ((Hbel.out.setCell (p := ⟨w14.heap.size, 0, none⟩) (Nat.le_of_lt lw14) (.bool k4.neg)).setCell (p := ⟨w14.heap.size, 1, none⟩) (Nat.le_of_lt lw14) (.slice k4.A k4.k k4.c)); generalize hWW : ((w15.setCell ⟨w14.heap.size, 0, none⟩ (.bool k4.neg)).setCell ⟨w14.heap.size, 1, none⟩ (.slice k4.A k4.k k4.c)) = W at *; generalize hgg : w14.heap.size = g at *; clear hWW hgg)
      | (have HBg := Lib.hid (show Blk ((w15.setCell ⟨w12.heap.size, 0, none⟩ (.bool k4.neg)).setCell ⟨w12.heap.size, 1, none⟩ (.slice k4.A k4.k k4.c)) w12.heap.size 25 #[.bool k4.neg, .slice k4.A k4.k k4.c] from (HBm.out.set_ 0 (.bool k4.neg)).set_ 1 (.slice k4.A k4.k k4.c)); have Hkn := Lib.hid ((Hk4.out.set (a := ⟨w12.heap.size, 0, none⟩) (Nat.lt_irrefl _) (.bool k4.neg)).set (a := ⟨w12.heap.size, 1, none⟩) (Nat.lt_irrefl _) (.slice k4.A k4.k k4.c)); replace HT := Lib.hid ((HT.out.set (a := ⟨w12.heap.size, 0, none⟩) (Nat.not_lt.2 (Nat.le_of_lt lw12)) (.bool k4.neg)).set (a := ⟨w12.heap.size, 1, none⟩) (Nat.not_lt.2 (Nat.le_of_lt lw12)) (.slice k4.A k4.k k4.c)); replace Hbel := Lib.hid ((Hbel.out.setCell (p := ⟨w12.heap.size, 0, none⟩) (Nat.le_of_lt lw12) (.bool k4.neg)).setCell (p := ⟨w12.heap.size, 1, none⟩) (Nat.le_of_lt lw12) (.slice k4.A k4.k k4.c)); generalize hWW : ((w15.setCell ⟨w12.heap.size, 0, none⟩ (.bool k4.neg)).setCell ⟨w12.heap.size, 1, none⟩ (.slice k4.A k4.k k4.c)) = W at *; generalize hgg : w12.heap.size = g at *; clear hWW hgg)
      | (have HBg := Lib.hid (show Blk ((w15.setCell ⟨w10.heap.size, 0, none⟩ (.bool k4.neg)).setCell ⟨w10.heap.size, 1, none⟩ (.slice k4.A k4.k k4.c)) w10.heap.size 25 #[.bool k4.neg, .slice k4.A k4.k k4.c] from (HBm.out.set_ 0 (.bool k4.neg)).set_ 1 (.slice k4.A k4.k k4.c)); have Hkn := Lib.hid ((Hk4.out.set (a := ⟨w10.heap.size, 0, none⟩) (Nat.lt_irrefl _) (.bool k4.neg)).set (a := ⟨w10.heap.size, 1, none⟩) (Nat.lt_irrefl _) (.slice k4.A k4.k k4.c)); replace HT := Lib.hid ((HT.out.set (a := ⟨w10.heap.size, 0, none⟩) (Nat.not_lt.2 (Nat.le_of_lt lw10)) (.bool k4.neg)).set (a := ⟨w10.heap.size, 1, none⟩) (Nat.not_lt.2 (Nat.le_of_lt lw10)) (.slice k4.A k4.k k4.c)); replace Hbel := Lib.hid ((Hbel.out.setCell (p := ⟨w10.heap.size, 0, none⟩) (Nat.le_of_lt lw10) (.bool k4.neg)).setCell (p := ⟨w10.heap.size, 1, none⟩) (Nat.le_of_lt lw10) (.slice k4.A k4.k k4.c)); generalize hWW : ((w15.setCell ⟨w10.heap.size, 0, none⟩ (.bool k4.neg)).setCell ⟨w10.heap.size, 1, none⟩ (.slice k4.A k4.k k4.c)) = W at *; generalize hgg : w10.heap.size = g at *; clear hWW hgg)
      | (have HBg := Lib.hid (Blk.new w15 25 #[.bool k4.neg, .slice k4.A k4.k k4.c]); have Hkn := Lib.hid (Hk4.out.alloc (.cells #[.bool k4.neg, .slice k4.A k4.k k4.c] 25)); replace HT := Lib.hid (HT.out.alloc (.cells #[.bool k4.neg, .slice k4.A k4.k k4.c] 25)); replace Hbel := Lib.hid (Hbel.out.alloc Hbel.out.size (.cells #[.bool k4.neg, .slice k4.A k4.k k4.c] 25)); generalize hWW : (w15.alloc (.cells #[.bool k4.neg, .slice k4.A k4.k k4.c] 25)) = W at *; generalize hgg : w15.heap.size = g at *; clear hWW hgg)
    have c0 : W.cell? ⟨g, 0, none⟩ = some (.bool k4.neg) := HBg.out.cell 0
    have c1 : W.cell? ⟨g, 1, none⟩ = some (.slice k4.A k4.k k4.c) := HBg.out.cell 1
    go_wp2_with fail
    go_region_held3 (fun W => W.cell? ⟨g, 0, none⟩ = some (.bool k4.neg) ∧ W.cell? ⟨g, 1, none⟩ = some (.slice k4.A k4.k k4.c)) (go_keep)
      (first
        | (go_at_call 10; go_must (refine (Htx4.out _ k4 (by first | exact Hkn.out.now | exact Hkn.out.drew.now | exact (Hkn.out.alloc _).now | exact (Hkn.out.drew.alloc _).now) (by first | exact HT.out.now | exact HT.out.drew.now | exact (HT.out.alloc _).now | exact (HT.out.drew.alloc _).now)).mono ?_; rintro e w16 ⟨rfl, hb16⟩; replace HBg := Lib.hid (Blk.below (by exact HBg.out) hb16 (by exact HBg.out.lt)); have sw16HBg0 : w16.cell? ⟨g, 0, none⟩ = some (.bool k4.neg) := HBg.out.cell 0; have sw16HBg1 : w16.cell? ⟨g, 1, none⟩ = some (.slice k4.A k4.k k4.c) := HBg.out.cell 1; replace HT := Lib.hid (Rests.below (φ := Tab) (by first | exact HT.out | exact HT.out.drew) hb16); replace Hbel := Lib.hid (Below.after (by first | exact Hbel.out | exact Below.drew Hbel.out) hb16); clear hb16))
        | (go_at_call 11; go_must (refine (awake_any _ (by first | exact HT.out.now | exact HT.out.drew.now | exact (HT.out.alloc _).now | exact (HT.out.drew.alloc _).now)).mono ?_; rintro e w17 ⟨rfl, hb17⟩; replace HBg := Lib.hid (Blk.below (by exact HBg.out) hb17 (by exact HBg.out.lt)); have sw17HBg0 : w17.cell? ⟨g, 0, none⟩ = some (.bool k4.neg) := HBg.out.cell 0; have sw17HBg1 : w17.cell? ⟨g, 1, none⟩ = some (.slice k4.A k4.k k4.c) := HBg.out.cell 1; replace Hbel := Lib.hid (Below.after (by first | exact Hbel.out | exact Below.drew Hbel.out) hb17); clear hb17)))
    all_goals
      go_wp2_with fail
      go_ret
      exact ⟨rfl, Hbel.out⟩

set_option maxRecDepth 100000 in
set_option maxHeartbeats 4000000 in
theorem back_no_zero (w : World) (i : IV) (z : Int) (s : ByteArray) (d : Nat) (hi : IntD i z 30 w) (hs : s.size ≤ 700) (_hd : d < 256) (htab : Tab w) (hr : (parseN s.data.toList).1 ≠ 0) (hz : z = 0) :
    Calls Tryd.prog 6 #[.agg #[.bool i.neg, .slice i.A i.k i.c], .string s, .int .u8 (d : Int)] w fun e w' => e = .returned (.bool true) ∧ Below w.heap.size w w' := by
  have hik := hi.le
  have Hlt := Lib.hid hi.lt
  have Hsh := Lib.hid (short_of hi.lt)
  have hsg : z.sign = 0 := by rw [hz]; rfl
  have Hsg := Lib.hid hsg
  have Hz := Lib.hid hz
  have hs7 : ¬ (700 : Int) < (s.size : Int) := by omega
  obtain ⟨T, hT⟩ : ∃ T : ByteArray, T = ⟨(intText (decide (z < 0)) z.natAbs).toArray⟩ := ⟨_, rfl⟩
  have HTT := Lib.hid hT
  have HP1 := Lib.hid (fun W => parse_t W z (short_of hi.lt))
  rw [← hT] at HP1
  have Hst : Hid (∀ W, Calls Tryd.prog 12 #[.agg #[.bool i.neg, .slice i.A i.k i.c], .int .i64 30] W fun e w' => e = .returned (.bool true) ∧ Below W.heap.size W w') := fun W => by
    have h1 := shortInt_any W i.neg i.A i.k i.c 30
    rw [decide_eq_true hi.le] at h1; exact h1
  have Htx : Hid (∀ W, IntD i z 30 W → Tab W → Calls Tryd.prog 10 #[.agg #[.bool i.neg, .slice i.A i.k i.c]] W fun e w' => e = .returned (.string T) ∧ Below W.heap.size W w') := fun W h1 h2 => by
    have h3 := text_i h1 (by omega) h2
    rw [hT]; exact h3
  have HPs := Lib.hid (fun W => parse_any s W (by omega))
  have HBa := Lib.hid ((by have := Blk.new w 25 #[.bool i.neg, .slice i.A i.k i.c]; simpa using this : Blk (w.alloc (.cells #[.bool i.neg, .slice i.A i.k i.c] 25)) (w.heap.size) 25 #[.bool i.neg, .slice i.A i.k i.c]))
  have Hi := Lib.hid ((hi.old).alloc (.cells #[.bool i.neg, .slice i.A i.k i.c] 25))
  have HT := Lib.hid ((htab.old).alloc (.cells #[.bool i.neg, .slice i.A i.k i.c] 25))
  have Hbel := Lib.hid (show Below w.heap.size w (w.alloc (.cells #[.bool i.neg, .slice i.A i.k i.c] 25)) from ((Below.refl w.heap.size w).alloc (by simp; try omega) (.cells #[.bool i.neg, .slice i.A i.k i.c] 25)))
  clear hi htab hz hsg hs hT
  generalize hR : parseN s.data.toList = R at *
  obtain ⟨re, rn, rv⟩ := R
  have hre : ((re : Int) == 0) = false := by simpa using hr
  clear hR
  go_enter Tryd.func6, Tryd.ntmps6
  go_wp2_with fail
  refine (Hst.out _).mono ?_
  rintro e w1 ⟨rfl, hb1⟩
  replace HBa := Lib.hid (Blk.below (by exact HBa.out) hb1 (by exact HBa.out.lt))
  have sw1HBa0 : w1.cell? ⟨w.heap.size, 0, none⟩ = some (.bool i.neg) := HBa.out.cell 0
  have sw1HBa1 : w1.cell? ⟨w.heap.size, 1, none⟩ = some (.slice i.A i.k i.c) := HBa.out.cell 1
  replace Hi := Lib.hid (Rests.below (φ := IntD i z 30) (by first | exact Hi.out | exact Hi.out.drew) hb1)
  replace HT := Lib.hid (Rests.below (φ := Tab) (by first | exact HT.out | exact HT.out.drew) hb1)
  replace Hbel := Lib.hid (Below.after (by first | exact Hbel.out | exact Below.drew Hbel.out) hb1)
  clear hb1
  go_wp2_with fail
  refine (Htx.out _ (by first | exact Hi.out.now | exact Hi.out.drew.now) (by first | exact HT.out.now | exact HT.out.drew.now)).mono ?_
  rintro e w2 ⟨rfl, hb2⟩
  replace HBa := Lib.hid (Blk.below (by exact HBa.out) hb2 (by exact HBa.out.lt))
  have sw2HBa0 : w2.cell? ⟨w.heap.size, 0, none⟩ = some (.bool i.neg) := HBa.out.cell 0
  have sw2HBa1 : w2.cell? ⟨w.heap.size, 1, none⟩ = some (.slice i.A i.k i.c) := HBa.out.cell 1
  replace Hi := Lib.hid (Rests.below (φ := IntD i z 30) (by first | exact Hi.out | exact Hi.out.drew) hb2)
  replace HT := Lib.hid (Rests.below (φ := Tab) (by first | exact HT.out | exact HT.out.drew) hb2)
  replace Hbel := Lib.hid (Below.after (by first | exact Hbel.out | exact Below.drew Hbel.out) hb2)
  clear hb2
  go_wp2_with fail
  refine (HP1.out _).mono ?_
  rintro e w3 ⟨j, rfl, hj, hb3⟩
  replace HBa := Lib.hid (Blk.below (by exact HBa.out) hb3 (by exact HBa.out.lt))
  have sw3HBa0 : w3.cell? ⟨w.heap.size, 0, none⟩ = some (.bool i.neg) := HBa.out.cell 0
  have sw3HBa1 : w3.cell? ⟨w.heap.size, 1, none⟩ = some (.slice i.A i.k i.c) := HBa.out.cell 1
  replace Hi := Lib.hid (Rests.below (φ := IntD i z 30) (by first | exact Hi.out | exact Hi.out.drew) hb3)
  replace HT := Lib.hid (Rests.below (φ := Tab) (by first | exact HT.out | exact HT.out.drew) hb3)
  replace Hbel := Lib.hid (Below.after (by first | exact Hbel.out | exact Below.drew Hbel.out) hb3)
  have Hj := Lib.hid hj.old
  clear hj
  clear hb3
  replace HBa := Lib.hid (HBa.out.alloc (.cells #[.bool j.neg, .slice j.A j.k j.c] 25))
  replace Hi := Lib.hid (Hi.out.alloc (.cells #[.bool j.neg, .slice j.A j.k j.c] 25))
  replace HT := Lib.hid (HT.out.alloc (.cells #[.bool j.neg, .slice j.A j.k j.c] 25))
  replace Hj := Lib.hid (Hj.out.alloc (.cells #[.bool j.neg, .slice j.A j.k j.c] 25))
  replace Hbel := Lib.hid (Hbel.out.alloc Hbel.out.size (.cells #[.bool j.neg, .slice j.A j.k j.c] 25))
  have HBb := Lib.hid (Blk.new w3 25 #[.bool j.neg, .slice j.A j.k j.c])
  have pHBa0 : World.cell? _ ⟨w.heap.size, 0, none⟩ = some (.bool i.neg) := HBa.out.cell 0
  have pHBa1 : World.cell? _ ⟨w.heap.size, 1, none⟩ = some (.slice i.A i.k i.c) := HBa.out.cell 1
  have pHBb0 : World.cell? _ ⟨w3.heap.size, 0, none⟩ = some (.bool j.neg) := HBb.out.cell 0
  have pHBb1 : World.cell? _ ⟨w3.heap.size, 1, none⟩ = some (.slice j.A j.k j.c) := HBb.out.cell 1
  have n34 : w3.heap.size ≠ w.heap.size := by have := HBa.out.lt; have h2 := Hbel.out.size; have h3 := sw3HBa0; have h4 := World.block_lt_of_cell? w3 _ sw3HBa0; simp at h4; omega
  go_wp2_with fail
  go_region_held3 (fun W => W.cell? ⟨w.heap.size, 0, none⟩ = some (.bool i.neg) ∧ W.cell? ⟨w.heap.size, 1, none⟩ = some (.slice i.A i.k i.c) ∧ W.cell? ⟨w3.heap.size, 0, none⟩ = some (.bool j.neg) ∧ W.cell? ⟨w3.heap.size, 1, none⟩ = some (.slice j.A j.k j.c)) (go_keep)
    (first
      | (go_at_call 22; go_must (refine (wnorm_any _ i z 30 (by omega) (by first | exact Hi.out.now | exact Hi.out.drew.now)).mono ?_; rintro e w4 ⟨k, rfl, hk, hb4⟩; replace HBa := Lib.hid (Blk.below (by exact HBa.out) hb4 (by exact HBa.out.lt)); have sw4HBa0 : w4.cell? ⟨w.heap.size, 0, none⟩ = some (.bool i.neg) := HBa.out.cell 0; have sw4HBa1 : w4.cell? ⟨w.heap.size, 1, none⟩ = some (.slice i.A i.k i.c) := HBa.out.cell 1; replace HBb := Lib.hid (Blk.below (by exact HBb.out) hb4 (by exact HBb.out.lt)); have sw4HBb0 : w4.cell? ⟨w3.heap.size, 0, none⟩ = some (.bool j.neg) := HBb.out.cell 0; have sw4HBb1 : w4.cell? ⟨w3.heap.size, 1, none⟩ = some (.slice j.A j.k j.c) := HBb.out.cell 1; replace Hi := Lib.hid (Rests.below (φ := IntD i z 30) (by first | exact Hi.out | exact Hi.out.drew) hb4); replace HT := Lib.hid (Rests.below (φ := Tab) (by first | exact HT.out | exact HT.out.drew) hb4); replace Hj := Lib.hid (Rests.below (φ := IntN j z) (by first | exact Hj.out | exact Hj.out.drew) hb4); replace Hbel := Lib.hid (Below.after (by first | exact Hbel.out | exact Below.drew Hbel.out) hb4); have Hk := Lib.hid hk; clear hk; clear hb4))
      | (go_at_call 16; go_must (refine (sameInt_n (i := j) (j := k) (z := z) (by first | exact Hj.out.now | exact Hj.out.drew.now) (by first | exact Hk.out.now | exact Hk.out.drew.now) Hsh.out).mono ?_; rintro e w5 ⟨rfl, hb5⟩; replace HBa := Lib.hid (Blk.below (by exact HBa.out) hb5 (by exact HBa.out.lt)); have sw5HBa0 : w5.cell? ⟨w.heap.size, 0, none⟩ = some (.bool i.neg) := HBa.out.cell 0; have sw5HBa1 : w5.cell? ⟨w.heap.size, 1, none⟩ = some (.slice i.A i.k i.c) := HBa.out.cell 1; replace HBb := Lib.hid (Blk.below (by exact HBb.out) hb5 (by exact HBb.out.lt)); have sw5HBb0 : w5.cell? ⟨w3.heap.size, 0, none⟩ = some (.bool j.neg) := HBb.out.cell 0; have sw5HBb1 : w5.cell? ⟨w3.heap.size, 1, none⟩ = some (.slice j.A j.k j.c) := HBb.out.cell 1; replace Hi := Lib.hid (Rests.below (φ := IntD i z 30) (by first | exact Hi.out | exact Hi.out.drew) hb5); replace HT := Lib.hid (Rests.below (φ := Tab) (by first | exact HT.out | exact HT.out.drew) hb5); replace Hbel := Lib.hid (Below.after (by first | exact Hbel.out | exact Below.drew Hbel.out) hb5); clear hb5)))
  go_wp2_with fail
  refine (HPs.out _).mono ?_
  rintro e w6 ⟨Ac, cc, rfl, hcc, hrc, hb6⟩
  replace HBa := Lib.hid (Blk.below (by exact HBa.out) hb6 (by exact HBa.out.lt))
  have sw6HBa0 : w6.cell? ⟨w.heap.size, 0, none⟩ = some (.bool i.neg) := HBa.out.cell 0
  have sw6HBa1 : w6.cell? ⟨w.heap.size, 1, none⟩ = some (.slice i.A i.k i.c) := HBa.out.cell 1
  replace Hi := Lib.hid (Rests.below (φ := IntD i z 30) (by first | exact Hi.out | exact Hi.out.drew) hb6)
  replace HT := Lib.hid (Rests.below (φ := Tab) (by first | exact HT.out | exact HT.out.drew) hb6)
  replace Hbel := Lib.hid (Below.after (by first | exact Hbel.out | exact Below.drew Hbel.out) hb6)
  have Hrc := Lib.hid (rests_rd (F := (· < w6.heap.size)) hrc (fun k hk => hrc.lt k hk))
  clear hrc hcc
  clear hb6
  replace HBa := Lib.hid (HBa.out.alloc (.cells #[.bool rn, .slice Ac (digs B64 rv).length cc] 25))
  replace Hi := Lib.hid (Hi.out.alloc (.cells #[.bool rn, .slice Ac (digs B64 rv).length cc] 25))
  replace HT := Lib.hid (HT.out.alloc (.cells #[.bool rn, .slice Ac (digs B64 rv).length cc] 25))
  replace Hrc := Lib.hid (Hrc.out.alloc (.cells #[.bool rn, .slice Ac (digs B64 rv).length cc] 25))
  replace Hbel := Lib.hid (Hbel.out.alloc Hbel.out.size (.cells #[.bool rn, .slice Ac (digs B64 rv).length cc] 25))
  have HBc := Lib.hid (Blk.new w6 25 #[.bool rn, .slice Ac (digs B64 rv).length cc])
  have rHBa0 : World.cell? _ ⟨w.heap.size, 0, none⟩ = some (.bool i.neg) := HBa.out.cell 0
  have rHBa1 : World.cell? _ ⟨w.heap.size, 1, none⟩ = some (.slice i.A i.k i.c) := HBa.out.cell 1
  have rHBc0 : World.cell? _ ⟨w6.heap.size, 0, none⟩ = some (.bool rn) := HBc.out.cell 0
  have rHBc1 : World.cell? _ ⟨w6.heap.size, 1, none⟩ = some (.slice Ac (digs B64 rv).length cc) := HBc.out.cell 1
  go_wp2_with fail
  refine (wsign_any _ i z 30 (by omega) (by first | exact Hi.out.now | exact Hi.out.drew.now)).mono ?_
  rintro e w8 ⟨rfl, hb8⟩
  replace HBa := Lib.hid (Blk.below (by exact HBa.out) hb8 (by exact HBa.out.lt))
  have sw8HBa0 : w8.cell? ⟨w.heap.size, 0, none⟩ = some (.bool i.neg) := HBa.out.cell 0
  have sw8HBa1 : w8.cell? ⟨w.heap.size, 1, none⟩ = some (.slice i.A i.k i.c) := HBa.out.cell 1
  replace Hi := Lib.hid (Rests.below (φ := IntD i z 30) (by first | exact Hi.out | exact Hi.out.drew) hb8)
  replace HT := Lib.hid (Rests.below (φ := Tab) (by first | exact HT.out | exact HT.out.drew) hb8)
  replace Hbel := Lib.hid (Below.after (by first | exact Hbel.out | exact Below.drew Hbel.out) hb8)
  clear hb8
  rw [Hsg.out]
  go_wp2_with fail
  refine (wsign_any _ i z 30 (by omega) (by first | exact Hi.out.now | exact Hi.out.drew.now)).mono ?_
  rintro e w10 ⟨rfl, hb10⟩
  replace HBa := Lib.hid (Blk.below (by exact HBa.out) hb10 (by exact HBa.out.lt))
  have sw10HBa0 : w10.cell? ⟨w.heap.size, 0, none⟩ = some (.bool i.neg) := HBa.out.cell 0
  have sw10HBa1 : w10.cell? ⟨w.heap.size, 1, none⟩ = some (.slice i.A i.k i.c) := HBa.out.cell 1
  replace Hi := Lib.hid (Rests.below (φ := IntD i z 30) (by first | exact Hi.out | exact Hi.out.drew) hb10)
  replace HT := Lib.hid (Rests.below (φ := Tab) (by first | exact HT.out | exact HT.out.drew) hb10)
  replace Hbel := Lib.hid (Below.after (by first | exact Hbel.out | exact Below.drew Hbel.out) hb10)
  clear hb10
  rw [Hsg.out]
  go_wp2_with fail
  refine (awake_any _ (by first | exact HT.out.now | exact HT.out.drew.now)).mono ?_
  rintro e w11 ⟨rfl, hb11⟩
  replace HBa := Lib.hid (Blk.below (by exact HBa.out) hb11 (by exact HBa.out.lt))
  have sw11HBa0 : w11.cell? ⟨w.heap.size, 0, none⟩ = some (.bool i.neg) := HBa.out.cell 0
  have sw11HBa1 : w11.cell? ⟨w.heap.size, 1, none⟩ = some (.slice i.A i.k i.c) := HBa.out.cell 1
  replace Hbel := Lib.hid (Below.after (by first | exact Hbel.out | exact Below.drew Hbel.out) hb11)
  clear hb11
  go_wp2_with fail
  go_ret
  exact ⟨rfl, Hbel.out⟩

set_option maxRecDepth 100000 in
set_option maxHeartbeats 4000000 in
theorem back_no_pos (w : World) (i : IV) (z : Int) (s : ByteArray) (d : Nat) (hi : IntD i z 30 w) (hs : s.size ≤ 700) (hd : d < 256) (htab : Tab w) (hr : (parseN s.data.toList).1 ≠ 0) (hz : 0 < z) :
    Calls Tryd.prog 6 #[.agg #[.bool i.neg, .slice i.A i.k i.c], .string s, .int .u8 (d : Int)] w fun e w' => e = .returned (.bool true) ∧ Below w.heap.size w w' := by
  have hik := hi.le
  have Hlt := Lib.hid hi.lt
  have Hsh := Lib.hid (short_of hi.lt)
  have hsg : z.sign = 1 := by exact Int.sign_eq_one_of_pos hz
  have Hsg := Lib.hid hsg
  have Hz := Lib.hid hz
  have hs7 : ¬ (700 : Int) < (s.size : Int) := by omega
  obtain ⟨T, hT⟩ : ∃ T : ByteArray, T = ⟨(intText (decide (z < 0)) z.natAbs).toArray⟩ := ⟨_, rfl⟩
  have HTT := Lib.hid hT
  have HP1 := Lib.hid (fun W => parse_t W z (short_of hi.lt))
  rw [← hT] at HP1
  have Hst : Hid (∀ W, Calls Tryd.prog 12 #[.agg #[.bool i.neg, .slice i.A i.k i.c], .int .i64 30] W fun e w' => e = .returned (.bool true) ∧ Below W.heap.size W w') := fun W => by
    have h1 := shortInt_any W i.neg i.A i.k i.c 30
    rw [decide_eq_true hi.le] at h1; exact h1
  have Htx : Hid (∀ W, IntD i z 30 W → Tab W → Calls Tryd.prog 10 #[.agg #[.bool i.neg, .slice i.A i.k i.c]] W fun e w' => e = .returned (.string T) ∧ Below W.heap.size W w') := fun W h1 h2 => by
    have h3 := text_i h1 (by omega) h2
    rw [hT]; exact h3
  have HPs := Lib.hid (fun W => parse_any s W (by omega))
  have HBa := Lib.hid ((by have := Blk.new w 25 #[.bool i.neg, .slice i.A i.k i.c]; simpa using this : Blk (w.alloc (.cells #[.bool i.neg, .slice i.A i.k i.c] 25)) (w.heap.size) 25 #[.bool i.neg, .slice i.A i.k i.c]))
  have Hi := Lib.hid ((hi.old).alloc (.cells #[.bool i.neg, .slice i.A i.k i.c] 25))
  have HT := Lib.hid ((htab.old).alloc (.cells #[.bool i.neg, .slice i.A i.k i.c] 25))
  have Hbel := Lib.hid (show Below w.heap.size w (w.alloc (.cells #[.bool i.neg, .slice i.A i.k i.c] 25)) from ((Below.refl w.heap.size w).alloc (by simp; try omega) (.cells #[.bool i.neg, .slice i.A i.k i.c] 25)))
  obtain ⟨dd, hdd⟩ : ∃ dd, dd = d % 10 := ⟨_, rfl⟩
  have hd10 : dd < 10 := by omega
  have e1 : (d : Int) % 10 = (dd : Int) := by omega
  have e2 : (d : Int).tmod 10 = (dd : Int) := by rw [Int.tmod_eq_emod_of_nonneg (by omega)]; exact e1
  have e3 : IntKind.u8.wrap (dd : Int) = (dd : Int) := by simp [IntKind.wrap, IntKind.signed, IntKind.bits]; omega
  have e4 : IntKind.i64.wrap (dd : Int) = (dd : Int) := IntWalk.i64_in _ (by omega)
  have e5 : IntKind.u8.wrap ((dd : Int) + 1) = (dd : Int) + 1 := by simp [IntKind.wrap, IntKind.signed, IntKind.bits]; omega
  have HL3 := Lib.hid (show (z * 10).natAbs < B64 ^ 31 from by
    have h5 := hi.lt
    rw [Int.natAbs_mul, Nat.pow_succ]
    exact Nat.mul_lt_mul_of_lt_of_le h5 (show (10 : Int).natAbs ≤ B64 by decide) B64_pos)
  have HL4 := Lib.hid (show (z * 10 + (dd : Nat)).natAbs < B64 ^ 32 from by
    have h5 := HL3.out
    have h6 : B64 ^ 31 * 2 ≤ B64 ^ 32 := by rw [Nat.pow_succ]; exact Nat.mul_le_mul_left _ (by decide)
    have h7 : B64 ^ 1 ≤ B64 ^ 31 := Nat.pow_le_pow_right B64_pos (by decide)
    have h8 : 10 ≤ B64 ^ 1 := by decide
    omega)
  have HLd := Lib.hid (show ((dd : Nat) : Int).natAbs < B64 ^ 1 from by simp only [B64]; omega)
  have hdg := dig10 dd hd10
  have Hmul := Lib.hid (fun (W : World) (a k : IV) (h1 : IntD a z 30 W) (h2 : IntN k 10 W) => wmul_any W a k z 10 30 1 (by omega) (by omega) h1 (h2.ofLt (by decide)))
  have Hadd := Lib.hid (fun (W : World) (a k : IV) (h1 : IntN a (z * 10) W) (h2 : IntN k (dd : Nat) W) => wadd_any W a k (z * 10) (dd : Nat) 31 1 (by omega) (by omega) (h1.ofLt HL3.out) (h2.ofLt HLd.out))
  have hTs : T.size ≤ 700 := by
    rw [hT, size_str]
    have h5 := dec_length (short_of hi.lt) (by decide)
    unfold intText; rw [if_neg (by omega), decide_eq_false (by omega)]; simp; omega
  have Htx4 := Lib.hid (fun (W : World) (k : IV) (h1 : IntN k (z * 10 + (dd : Nat)) W) (h2 : Tab W) => (show Calls Tryd.prog 10 #[.agg #[.bool k.neg, .slice k.A k.k k.c]] W fun e w' => e = .returned (.string (T ++ ⟨#[UInt8.ofNat (48 + dd)]⟩)) ∧ Below W.heap.size W w' from by
    have h5 := text_i (h1.ofLt (n := 32) HL4.out) (by omega) h2
    have h6 : intText (decide (z * 10 + (dd : Nat) < 0)) (z * 10 + (dd : Nat)).natAbs = Lib.decDigits z.natAbs ++ [UInt8.ofNat (48 + dd)] := by
      rw [decide_eq_false (by omega), show (z * 10 + (dd : Nat)).natAbs = z.natAbs * 10 + dd by omega]
      exact text_more _ _ (by omega) hd10
    have h7 : T ++ (⟨#[UInt8.ofNat (48 + dd)]⟩ : ByteArray) = ⟨(Lib.decDigits z.natAbs ++ [UInt8.ofNat (48 + dd)]).toArray⟩ := by
      rw [hT]
      unfold intText; rw [if_neg (by omega), decide_eq_false (by omega)]
      apply ByteArray.ext
      simp [ByteArray.data_append]
    rw [h6] at h5
    rw [h7]; exact h5))
  obtain ⟨D, hD⟩ : ∃ D : ByteArray, D = ⟨#[UInt8.ofNat (48 + dd)]⟩ := ⟨_, rfl⟩
  have hDs : D.size = 1 := by rw [hD]; rfl
  rw [← hD] at hdg Htx4
  clear hD
  have hcat := fun (W : World) => run_string_add_sum (P := Tryd.prog) W T D (by omega)
  have hno : ¬ 9223372036854775807 < T.size + 1 := by omega
  have hno2 : ¬ 9223372036854775807 ≤ T.size := by omega
  have Hof1 := Lib.hid (fun W => wof_any W 10 (by decide) (by decide))
  have Hof2 := Lib.hid (fun W => wof_any W (dd : Nat) (by omega) (by omega))
  clear hdd
  clear hi htab hz hsg hs hT
  generalize hR : parseN s.data.toList = R at *
  obtain ⟨re, rn, rv⟩ := R
  have hre : ((re : Int) == 0) = false := by simpa using hr
  clear hR
  go_enter Tryd.func6, Tryd.ntmps6
  go_wp2_with fail
  refine (Hst.out _).mono ?_
  rintro e w1 ⟨rfl, hb1⟩
  replace HBa := Lib.hid (Blk.below (by exact HBa.out) hb1 (by exact HBa.out.lt))
  have sw1HBa0 : w1.cell? ⟨w.heap.size, 0, none⟩ = some (.bool i.neg) := HBa.out.cell 0
  have sw1HBa1 : w1.cell? ⟨w.heap.size, 1, none⟩ = some (.slice i.A i.k i.c) := HBa.out.cell 1
  replace Hi := Lib.hid (Rests.below (φ := IntD i z 30) (by first | exact Hi.out | exact Hi.out.drew) hb1)
  replace HT := Lib.hid (Rests.below (φ := Tab) (by first | exact HT.out | exact HT.out.drew) hb1)
  replace Hbel := Lib.hid (Below.after (by first | exact Hbel.out | exact Below.drew Hbel.out) hb1)
  clear hb1
  go_wp2_with fail
  refine (Htx.out _ (by first | exact Hi.out.now | exact Hi.out.drew.now) (by first | exact HT.out.now | exact HT.out.drew.now)).mono ?_
  rintro e w2 ⟨rfl, hb2⟩
  replace HBa := Lib.hid (Blk.below (by exact HBa.out) hb2 (by exact HBa.out.lt))
  have sw2HBa0 : w2.cell? ⟨w.heap.size, 0, none⟩ = some (.bool i.neg) := HBa.out.cell 0
  have sw2HBa1 : w2.cell? ⟨w.heap.size, 1, none⟩ = some (.slice i.A i.k i.c) := HBa.out.cell 1
  replace Hi := Lib.hid (Rests.below (φ := IntD i z 30) (by first | exact Hi.out | exact Hi.out.drew) hb2)
  replace HT := Lib.hid (Rests.below (φ := Tab) (by first | exact HT.out | exact HT.out.drew) hb2)
  replace Hbel := Lib.hid (Below.after (by first | exact Hbel.out | exact Below.drew Hbel.out) hb2)
  clear hb2
  go_wp2_with fail
  refine (HP1.out _).mono ?_
  rintro e w3 ⟨j, rfl, hj, hb3⟩
  replace HBa := Lib.hid (Blk.below (by exact HBa.out) hb3 (by exact HBa.out.lt))
  have sw3HBa0 : w3.cell? ⟨w.heap.size, 0, none⟩ = some (.bool i.neg) := HBa.out.cell 0
  have sw3HBa1 : w3.cell? ⟨w.heap.size, 1, none⟩ = some (.slice i.A i.k i.c) := HBa.out.cell 1
  replace Hi := Lib.hid (Rests.below (φ := IntD i z 30) (by first | exact Hi.out | exact Hi.out.drew) hb3)
  replace HT := Lib.hid (Rests.below (φ := Tab) (by first | exact HT.out | exact HT.out.drew) hb3)
  replace Hbel := Lib.hid (Below.after (by first | exact Hbel.out | exact Below.drew Hbel.out) hb3)
  have Hj := Lib.hid hj.old
  clear hj
  clear hb3
  replace HBa := Lib.hid (HBa.out.alloc (.cells #[.bool j.neg, .slice j.A j.k j.c] 25))
  replace Hi := Lib.hid (Hi.out.alloc (.cells #[.bool j.neg, .slice j.A j.k j.c] 25))
  replace HT := Lib.hid (HT.out.alloc (.cells #[.bool j.neg, .slice j.A j.k j.c] 25))
  replace Hj := Lib.hid (Hj.out.alloc (.cells #[.bool j.neg, .slice j.A j.k j.c] 25))
  replace Hbel := Lib.hid (Hbel.out.alloc Hbel.out.size (.cells #[.bool j.neg, .slice j.A j.k j.c] 25))
  have HBb := Lib.hid (Blk.new w3 25 #[.bool j.neg, .slice j.A j.k j.c])
  have pHBa0 : World.cell? _ ⟨w.heap.size, 0, none⟩ = some (.bool i.neg) := HBa.out.cell 0
  have pHBa1 : World.cell? _ ⟨w.heap.size, 1, none⟩ = some (.slice i.A i.k i.c) := HBa.out.cell 1
  have pHBb0 : World.cell? _ ⟨w3.heap.size, 0, none⟩ = some (.bool j.neg) := HBb.out.cell 0
  have pHBb1 : World.cell? _ ⟨w3.heap.size, 1, none⟩ = some (.slice j.A j.k j.c) := HBb.out.cell 1
  have n34 : w3.heap.size ≠ w.heap.size := by have := HBa.out.lt; have h2 := Hbel.out.size; have h3 := sw3HBa0; have h4 := World.block_lt_of_cell? w3 _ sw3HBa0; simp at h4; omega
  go_wp2_with fail
  go_region_held3 (fun W => W.cell? ⟨w.heap.size, 0, none⟩ = some (.bool i.neg) ∧ W.cell? ⟨w.heap.size, 1, none⟩ = some (.slice i.A i.k i.c) ∧ W.cell? ⟨w3.heap.size, 0, none⟩ = some (.bool j.neg) ∧ W.cell? ⟨w3.heap.size, 1, none⟩ = some (.slice j.A j.k j.c)) (go_keep)
    (first
      | (go_at_call 22; go_must (refine (wnorm_any _ i z 30 (by omega) (by first | exact Hi.out.now | exact Hi.out.drew.now)).mono ?_; rintro e w4 ⟨k, rfl, hk, hb4⟩; replace HBa := Lib.hid (Blk.below (by exact HBa.out) hb4 (by exact HBa.out.lt)); have sw4HBa0 : w4.cell? ⟨w.heap.size, 0, none⟩ = some (.bool i.neg) := HBa.out.cell 0; have sw4HBa1 : w4.cell? ⟨w.heap.size, 1, none⟩ = some (.slice i.A i.k i.c) := HBa.out.cell 1; replace HBb := Lib.hid (Blk.below (by exact HBb.out) hb4 (by exact HBb.out.lt)); have sw4HBb0 : w4.cell? ⟨w3.heap.size, 0, none⟩ = some (.bool j.neg) := HBb.out.cell 0; have sw4HBb1 : w4.cell? ⟨w3.heap.size, 1, none⟩ = some (.slice j.A j.k j.c) := HBb.out.cell 1; replace Hi := Lib.hid (Rests.below (φ := IntD i z 30) (by first | exact Hi.out | exact Hi.out.drew) hb4); replace HT := Lib.hid (Rests.below (φ := Tab) (by first | exact HT.out | exact HT.out.drew) hb4); replace Hj := Lib.hid (Rests.below (φ := IntN j z) (by first | exact Hj.out | exact Hj.out.drew) hb4); replace Hbel := Lib.hid (Below.after (by first | exact Hbel.out | exact Below.drew Hbel.out) hb4); have Hk := Lib.hid hk; clear hk; clear hb4))
      | (go_at_call 16; go_must (refine (sameInt_n (i := j) (j := k) (z := z) (by first | exact Hj.out.now | exact Hj.out.drew.now) (by first | exact Hk.out.now | exact Hk.out.drew.now) Hsh.out).mono ?_; rintro e w5 ⟨rfl, hb5⟩; replace HBa := Lib.hid (Blk.below (by exact HBa.out) hb5 (by exact HBa.out.lt)); have sw5HBa0 : w5.cell? ⟨w.heap.size, 0, none⟩ = some (.bool i.neg) := HBa.out.cell 0; have sw5HBa1 : w5.cell? ⟨w.heap.size, 1, none⟩ = some (.slice i.A i.k i.c) := HBa.out.cell 1; replace HBb := Lib.hid (Blk.below (by exact HBb.out) hb5 (by exact HBb.out.lt)); have sw5HBb0 : w5.cell? ⟨w3.heap.size, 0, none⟩ = some (.bool j.neg) := HBb.out.cell 0; have sw5HBb1 : w5.cell? ⟨w3.heap.size, 1, none⟩ = some (.slice j.A j.k j.c) := HBb.out.cell 1; replace Hi := Lib.hid (Rests.below (φ := IntD i z 30) (by first | exact Hi.out | exact Hi.out.drew) hb5); replace HT := Lib.hid (Rests.below (φ := Tab) (by first | exact HT.out | exact HT.out.drew) hb5); replace Hbel := Lib.hid (Below.after (by first | exact Hbel.out | exact Below.drew Hbel.out) hb5); clear hb5)))
  go_wp2_with fail
  refine (HPs.out _).mono ?_
  rintro e w6 ⟨Ac, cc, rfl, hcc, hrc, hb6⟩
  replace HBa := Lib.hid (Blk.below (by exact HBa.out) hb6 (by exact HBa.out.lt))
  have sw6HBa0 : w6.cell? ⟨w.heap.size, 0, none⟩ = some (.bool i.neg) := HBa.out.cell 0
  have sw6HBa1 : w6.cell? ⟨w.heap.size, 1, none⟩ = some (.slice i.A i.k i.c) := HBa.out.cell 1
  replace Hi := Lib.hid (Rests.below (φ := IntD i z 30) (by first | exact Hi.out | exact Hi.out.drew) hb6)
  replace HT := Lib.hid (Rests.below (φ := Tab) (by first | exact HT.out | exact HT.out.drew) hb6)
  replace Hbel := Lib.hid (Below.after (by first | exact Hbel.out | exact Below.drew Hbel.out) hb6)
  have Hrc := Lib.hid (rests_rd (F := (· < w6.heap.size)) hrc (fun k hk => hrc.lt k hk))
  clear hrc hcc
  clear hb6
  replace HBa := Lib.hid (HBa.out.alloc (.cells #[.bool rn, .slice Ac (digs B64 rv).length cc] 25))
  replace Hi := Lib.hid (Hi.out.alloc (.cells #[.bool rn, .slice Ac (digs B64 rv).length cc] 25))
  replace HT := Lib.hid (HT.out.alloc (.cells #[.bool rn, .slice Ac (digs B64 rv).length cc] 25))
  replace Hrc := Lib.hid (Hrc.out.alloc (.cells #[.bool rn, .slice Ac (digs B64 rv).length cc] 25))
  replace Hbel := Lib.hid (Hbel.out.alloc Hbel.out.size (.cells #[.bool rn, .slice Ac (digs B64 rv).length cc] 25))
  have HBc := Lib.hid (Blk.new w6 25 #[.bool rn, .slice Ac (digs B64 rv).length cc])
  have rHBa0 : World.cell? _ ⟨w.heap.size, 0, none⟩ = some (.bool i.neg) := HBa.out.cell 0
  have rHBa1 : World.cell? _ ⟨w.heap.size, 1, none⟩ = some (.slice i.A i.k i.c) := HBa.out.cell 1
  have rHBc0 : World.cell? _ ⟨w6.heap.size, 0, none⟩ = some (.bool rn) := HBc.out.cell 0
  have rHBc1 : World.cell? _ ⟨w6.heap.size, 1, none⟩ = some (.slice Ac (digs B64 rv).length cc) := HBc.out.cell 1
  go_wp2_with fail
  refine (wsign_any _ i z 30 (by omega) (by first | exact Hi.out.now | exact Hi.out.drew.now)).mono ?_
  rintro e w8 ⟨rfl, hb8⟩
  replace HBa := Lib.hid (Blk.below (by exact HBa.out) hb8 (by exact HBa.out.lt))
  have sw8HBa0 : w8.cell? ⟨w.heap.size, 0, none⟩ = some (.bool i.neg) := HBa.out.cell 0
  have sw8HBa1 : w8.cell? ⟨w.heap.size, 1, none⟩ = some (.slice i.A i.k i.c) := HBa.out.cell 1
  replace Hi := Lib.hid (Rests.below (φ := IntD i z 30) (by first | exact Hi.out | exact Hi.out.drew) hb8)
  replace HT := Lib.hid (Rests.below (φ := Tab) (by first | exact HT.out | exact HT.out.drew) hb8)
  replace Hbel := Lib.hid (Below.after (by first | exact Hbel.out | exact Below.drew Hbel.out) hb8)
  clear hb8
  rw [Hsg.out]
  go_wp2_with fail
  refine (wsign_any _ i z 30 (by omega) (by first | exact Hi.out.now | exact Hi.out.drew.now)).mono ?_
  rintro e w10 ⟨rfl, hb10⟩
  replace HBa := Lib.hid (Blk.below (by exact HBa.out) hb10 (by exact HBa.out.lt))
  have sw10HBa0 : w10.cell? ⟨w.heap.size, 0, none⟩ = some (.bool i.neg) := HBa.out.cell 0
  have sw10HBa1 : w10.cell? ⟨w.heap.size, 1, none⟩ = some (.slice i.A i.k i.c) := HBa.out.cell 1
  replace Hi := Lib.hid (Rests.below (φ := IntD i z 30) (by first | exact Hi.out | exact Hi.out.drew) hb10)
  replace HT := Lib.hid (Rests.below (φ := Tab) (by first | exact HT.out | exact HT.out.drew) hb10)
  replace Hbel := Lib.hid (Below.after (by first | exact Hbel.out | exact Below.drew Hbel.out) hb10)
  clear hb10
  rw [Hsg.out]
  have lw10 : w.heap.size < w10.heap.size := HBa.out.lt
  have zw10 : w10.heap.size ≠ w.heap.size := Nat.ne_of_gt HBa.out.lt
  have yw10 : w.heap.size ≠ w10.heap.size := Nat.ne_of_lt HBa.out.lt
  go_wp2_with fail
  go_region_held3 (fun W => W.cell? ⟨w.heap.size, 0, none⟩ = some (.bool i.neg) ∧ W.cell? ⟨w.heap.size, 1, none⟩ = some (.slice i.A i.k i.c)) (go_keep)
    (first
      | (go_at_call_of 27 (Value.int .i64 10); go_must (refine (Hof1.out _).mono ?_; rintro e w12 ⟨k1, rfl, hk1, hb12⟩; (first | (have HBm := Lib.hid (Blk.below (Blk.new _ 25 #[.bool false, .slice none 0 0]) hb12 (by simp))) | (have HBm := Lib.hid (Blk.below (show Blk (World.drew (World.alloc _ (.cells #[.bool false, .slice none 0 0] 25))) _ 25 #[.bool false, .slice none 0 0] from Blk.new _ 25 #[.bool false, .slice none 0 0]) hb12 (by simp))) | (replace HBm := Lib.hid (Blk.below (by exact HBm.out) hb12 (by exact HBm.out.lt))) | skip); (try (have mw120 := HBm.out.cell 0; have mw121 := HBm.out.cell 1; have nw120 := HBm.out.frozen 0; have nw121 := HBm.out.frozen 1; simp at mw120 mw121 nw120 nw121)); replace HBa := Lib.hid (Blk.below (by first | exact HBa.out | exact HBa.out.alloc _) hb12 (by first | exact HBa.out.lt | exact (HBa.out.alloc _).lt)); have sw12HBa0 : w12.cell? ⟨w.heap.size, 0, none⟩ = some (.bool i.neg) := HBa.out.cell 0; have sw12HBa1 : w12.cell? ⟨w.heap.size, 1, none⟩ = some (.slice i.A i.k i.c) := HBa.out.cell 1; replace HT := Lib.hid (Rests.below (φ := Tab) (by first | exact HT.out | exact HT.out.drew | exact HT.out.alloc _ | exact HT.out.drew.alloc _) hb12); replace Hi := Lib.hid (Rests.below (φ := IntD i z 30) (by first | exact Hi.out | exact Hi.out.drew | exact Hi.out.alloc _ | exact Hi.out.drew.alloc _) hb12); replace Hbel := Lib.hid (Below.after (by first | exact Hbel.out | exact Below.drew Hbel.out | exact Hbel.out.alloc Hbel.out.size _ | exact (Below.drew Hbel.out).alloc Hbel.out.size _) hb12); have Hk1 := Lib.hid hk1; clear hk1; (try replace Hk2 := Lib.hid (Rests.below (φ := IntN k2 (dd : Nat)) (by first | exact Hk2.out | exact Hk2.out.drew | exact Hk2.out.alloc _ | exact Hk2.out.drew.alloc _) hb12)); (try replace Hk3 := Lib.hid (Rests.below (φ := IntN k3 (z * 10)) (by first | exact Hk3.out | exact Hk3.out.drew | exact Hk3.out.alloc _ | exact Hk3.out.drew.alloc _) hb12)); have lw12 : w.heap.size < w12.heap.size := HBa.out.lt; have zw12 : w12.heap.size ≠ w.heap.size := Nat.ne_of_gt HBa.out.lt; have yw12 : w.heap.size ≠ w12.heap.size := Nat.ne_of_lt HBa.out.lt; clear hb12))
      | (go_at_call_of 27 (Value.int .i64 (dd : Int)); go_must (refine (Hof2.out _).mono ?_; rintro e w13 ⟨k2, rfl, hk2, hb13⟩; (first | (have HBm := Lib.hid (Blk.below (Blk.new _ 25 #[.bool false, .slice none 0 0]) hb13 (by simp))) | (have HBm := Lib.hid (Blk.below (show Blk (World.drew (World.alloc _ (.cells #[.bool false, .slice none 0 0] 25))) _ 25 #[.bool false, .slice none 0 0] from Blk.new _ 25 #[.bool false, .slice none 0 0]) hb13 (by simp))) | (replace HBm := Lib.hid (Blk.below (by exact HBm.out) hb13 (by exact HBm.out.lt))) | skip); (try (have mw130 := HBm.out.cell 0; have mw131 := HBm.out.cell 1; have nw130 := HBm.out.frozen 0; have nw131 := HBm.out.frozen 1; simp at mw130 mw131 nw130 nw131)); replace HBa := Lib.hid (Blk.below (by first | exact HBa.out | exact HBa.out.alloc _) hb13 (by first | exact HBa.out.lt | exact (HBa.out.alloc _).lt)); have sw13HBa0 : w13.cell? ⟨w.heap.size, 0, none⟩ = some (.bool i.neg) := HBa.out.cell 0; have sw13HBa1 : w13.cell? ⟨w.heap.size, 1, none⟩ = some (.slice i.A i.k i.c) := HBa.out.cell 1; replace HT := Lib.hid (Rests.below (φ := Tab) (by first | exact HT.out | exact HT.out.drew | exact HT.out.alloc _ | exact HT.out.drew.alloc _) hb13); replace Hi := Lib.hid (Rests.below (φ := IntD i z 30) (by first | exact Hi.out | exact Hi.out.drew | exact Hi.out.alloc _ | exact Hi.out.drew.alloc _) hb13); replace Hbel := Lib.hid (Below.after (by first | exact Hbel.out | exact Below.drew Hbel.out | exact Hbel.out.alloc Hbel.out.size _ | exact (Below.drew Hbel.out).alloc Hbel.out.size _) hb13); have Hk2 := Lib.hid hk2; clear hk2; (try replace Hk1 := Lib.hid (Rests.below (φ := IntN k1 10) (by first | exact Hk1.out | exact Hk1.out.drew | exact Hk1.out.alloc _ | exact Hk1.out.drew.alloc _) hb13)); (try replace Hk3 := Lib.hid (Rests.below (φ := IntN k3 (z * 10)) (by first | exact Hk3.out | exact Hk3.out.drew | exact Hk3.out.alloc _ | exact Hk3.out.drew.alloc _) hb13)); have lw13 : w.heap.size < w13.heap.size := HBa.out.lt; have zw13 : w13.heap.size ≠ w.heap.size := Nat.ne_of_gt HBa.out.lt; have yw13 : w.heap.size ≠ w13.heap.size := Nat.ne_of_lt HBa.out.lt; clear hb13))
      | (go_at_call 26; go_must (refine (Hmul.out _ i k1 (by first | exact Hi.out.now | exact Hi.out.drew.now | exact (Hi.out.alloc _).now | exact (Hi.out.drew.alloc _).now) (by first | exact Hk1.out.now | exact Hk1.out.drew.now | exact (Hk1.out.alloc _).now | exact (Hk1.out.drew.alloc _).now)).mono ?_; rintro e w14 ⟨k3, rfl, hk3, hb14⟩; (first | (have HBm := Lib.hid (Blk.below (Blk.new _ 25 #[.bool false, .slice none 0 0]) hb14 (by simp))) | (have HBm := Lib.hid (Blk.below (show Blk (World.drew (World.alloc _ (.cells #[.bool false, .slice none 0 0] 25))) _ 25 #[.bool false, .slice none 0 0] from Blk.new _ 25 #[.bool false, .slice none 0 0]) hb14 (by simp))) | (replace HBm := Lib.hid (Blk.below (by exact HBm.out) hb14 (by exact HBm.out.lt))) | skip); (try (have mw140 := HBm.out.cell 0; have mw141 := HBm.out.cell 1; have nw140 := HBm.out.frozen 0; have nw141 := HBm.out.frozen 1; simp at mw140 mw141 nw140 nw141)); replace HBa := Lib.hid (Blk.below (by first | exact HBa.out | exact HBa.out.alloc _) hb14 (by first | exact HBa.out.lt | exact (HBa.out.alloc _).lt)); have sw14HBa0 : w14.cell? ⟨w.heap.size, 0, none⟩ = some (.bool i.neg) := HBa.out.cell 0; have sw14HBa1 : w14.cell? ⟨w.heap.size, 1, none⟩ = some (.slice i.A i.k i.c) := HBa.out.cell 1; replace HT := Lib.hid (Rests.below (φ := Tab) (by first | exact HT.out | exact HT.out.drew | exact HT.out.alloc _ | exact HT.out.drew.alloc _) hb14); replace Hi := Lib.hid (Rests.below (φ := IntD i z 30) (by first | exact Hi.out | exact Hi.out.drew | exact Hi.out.alloc _ | exact Hi.out.drew.alloc _) hb14); replace Hbel := Lib.hid (Below.after (by first | exact Hbel.out | exact Below.drew Hbel.out | exact Hbel.out.alloc Hbel.out.size _ | exact (Below.drew Hbel.out).alloc Hbel.out.size _) hb14); have Hk3 := Lib.hid hk3; clear hk3; (try replace Hk1 := Lib.hid (Rests.below (φ := IntN k1 10) (by first | exact Hk1.out | exact Hk1.out.drew | exact Hk1.out.alloc _ | exact Hk1.out.drew.alloc _) hb14)); (try replace Hk2 := Lib.hid (Rests.below (φ := IntN k2 (dd : Nat)) (by first | exact Hk2.out | exact Hk2.out.drew | exact Hk2.out.alloc _ | exact Hk2.out.drew.alloc _) hb14)); have lw14 : w.heap.size < w14.heap.size := HBa.out.lt; have zw14 : w14.heap.size ≠ w.heap.size := Nat.ne_of_gt HBa.out.lt; have yw14 : w.heap.size ≠ w14.heap.size := Nat.ne_of_lt HBa.out.lt; clear hb14))
      | (go_at_call 25; go_must (refine (Hadd.out _ k3 k2 (by first | exact Hk3.out.now | exact Hk3.out.drew.now | exact (Hk3.out.alloc _).now | exact (Hk3.out.drew.alloc _).now) (by first | exact Hk2.out.now | exact Hk2.out.drew.now | exact (Hk2.out.alloc _).now | exact (Hk2.out.drew.alloc _).now)).mono ?_; rintro e w15 ⟨k4, rfl, hk4, hb15⟩; (try (have hgm := HBm.out.lt)); (first | (have HBm := Lib.hid (Blk.below (Blk.new _ 25 #[.bool false, .slice none 0 0]) hb15 (by simp))) | (have HBm := Lib.hid (Blk.below (show Blk (World.drew (World.alloc _ (.cells #[.bool false, .slice none 0 0] 25))) _ 25 #[.bool false, .slice none 0 0] from Blk.new _ 25 #[.bool false, .slice none 0 0]) hb15 (by simp))) | (replace HBm := Lib.hid (Blk.below (by exact HBm.out) hb15 (by exact HBm.out.lt))) | skip); (try (have mw150 := HBm.out.cell 0; have mw151 := HBm.out.cell 1; have nw150 := HBm.out.frozen 0; have nw151 := HBm.out.frozen 1; simp at mw150 mw151 nw150 nw151)); replace HBa := Lib.hid (Blk.below (by first | exact HBa.out | exact HBa.out.alloc _) hb15 (by first | exact HBa.out.lt | exact (HBa.out.alloc _).lt)); have sw15HBa0 : w15.cell? ⟨w.heap.size, 0, none⟩ = some (.bool i.neg) := HBa.out.cell 0; have sw15HBa1 : w15.cell? ⟨w.heap.size, 1, none⟩ = some (.slice i.A i.k i.c) := HBa.out.cell 1; replace HT := Lib.hid (Rests.below (φ := Tab) (by first | exact HT.out | exact HT.out.drew | exact HT.out.alloc _ | exact HT.out.drew.alloc _) hb15); replace Hi := Lib.hid (Rests.below (φ := IntD i z 30) (by first | exact Hi.out | exact Hi.out.drew | exact Hi.out.alloc _ | exact Hi.out.drew.alloc _) hb15); replace Hbel := Lib.hid (Below.after (by first | exact Hbel.out | exact Below.drew Hbel.out | exact Hbel.out.alloc Hbel.out.size _ | exact (Below.drew Hbel.out).alloc Hbel.out.size _) hb15); (first | (have Hk4 := Lib.hid (hk4.mono (fun b hb => Nat.lt_of_lt_of_le hgm hb))) | (have Hk4 := Lib.hid (hk4.mono (fun b hb => Nat.lt_of_lt_of_le (alloc_lt _ _) hb))) | (have Hk4 := Lib.hid hk4)); clear hk4; (try replace Hk1 := Lib.hid (Rests.below (φ := IntN k1 10) (by first | exact Hk1.out | exact Hk1.out.drew | exact Hk1.out.alloc _ | exact Hk1.out.drew.alloc _) hb15)); (try replace Hk2 := Lib.hid (Rests.below (φ := IntN k2 (dd : Nat)) (by first | exact Hk2.out | exact Hk2.out.drew | exact Hk2.out.alloc _ | exact Hk2.out.drew.alloc _) hb15)); (try replace Hk3 := Lib.hid (Rests.below (φ := IntN k3 (z * 10)) (by first | exact Hk3.out | exact Hk3.out.drew | exact Hk3.out.alloc _ | exact Hk3.out.drew.alloc _) hb15)); have lw15 : w.heap.size < w15.heap.size := HBa.out.lt; have zw15 : w15.heap.size ≠ w.heap.size := Nat.ne_of_gt HBa.out.lt; have yw15 : w.heap.size ≠ w15.heap.size := Nat.ne_of_lt HBa.out.lt; clear hb15)))
  all_goals
    go_wp2_with fail
    first
      | (have HBg := Lib.hid (show Blk ((w15.setCell ⟨w13.heap.size, 0, none⟩ (.bool k4.neg)).setCell ⟨w13.heap.size, 1, none⟩ (.slice k4.A k4.k k4.c)) w13.heap.size 25 #[.bool k4.neg, .slice k4.A k4.k k4.c] from (HBm.out.set_ 0 (.bool k4.neg)).set_ 1 (.slice k4.A k4.k k4.c)); have Hkn := Lib.hid ((Hk4.out.set (a := ⟨w13.heap.size, 0, none⟩) (Nat.lt_irrefl _) (.bool k4.neg)).set (a := ⟨w13.heap.size, 1, none⟩) (Nat.lt_irrefl _) (.slice k4.A k4.k k4.c)); replace HT := Lib.hid ((HT.out.set (a := ⟨w13.heap.size, 0, none⟩) (Nat.not_lt.2 (Nat.le_of_lt lw13)) (.bool k4.neg)).set (a := ⟨w13.heap.size, 1, none⟩) (Nat.not_lt.2 (Nat.le_of_lt lw13)) (.slice k4.A k4.k k4.c)); replace Hbel := Lib.hid ((Hbel.out.setCell (p := ⟨w13.heap.size, 0, none⟩) (Nat.le_of_lt lw13) (.bool k4.neg)).setCell (p := ⟨w13.heap.size, 1, none⟩) (Nat.le_of_lt lw13) (.slice k4.A k4.k k4.c)); generalize hWW : ((w15.setCell ⟨w13.heap.size, 0, none⟩ (.bool k4.neg)).setCell ⟨w13.heap.size, 1, none⟩ (.slice k4.A k4.k k4.c)) = W at *; generalize hgg : w13.heap.size = g at *; clear hWW hgg)
      | (have HBg := Lib.hid (show Blk ((w15.setCell ⟨w14.heap.size, 0, none⟩ (.bool k4.neg)).setCell ⟨w14.heap.size, 1, none⟩ (.slice k4.A k4.k k4.c)) w14.heap.size 25 #[.bool k4.neg, .slice k4.A k4.k k4.c] from (HBm.out.set_ 0 (.bool k4.neg)).set_ 1 (.slice k4.A k4.k k4.c)); have Hkn := Lib.hid ((Hk4.out.set (a := ⟨w14.heap.size, 0, none⟩) (Nat.lt_irrefl _) (.bool k4.neg)).set (a := ⟨w14.heap.size, 1, none⟩) (Nat.lt_irrefl _) (.slice k4.A k4.k k4.c)); replace HT := Lib.hid ((HT.out.set (a := ⟨w14.heap.size, 0, none⟩) (Nat.not_lt.2 (Nat.le_of_lt lw14)) (.bool k4.neg)).set (a := ⟨w14.heap.size, 1, none⟩) (Nat.not_lt.2 (Nat.le_of_lt lw14)) (.slice k4.A k4.k k4.c)); replace Hbel := Lib.hid ((Hbel.out.setCell (p := ⟨w14.heap.size, 0, none⟩) (Nat.le_of_lt lw14) (.bool k4.neg)).setCell (p := ⟨w14.heap.size, 1, none⟩) (Nat.le_of_lt lw14) (.slice k4.A k4.k k4.c)); generalize hWW : ((w15.setCell ⟨w14.heap.size, 0, none⟩ (.bool k4.neg)).setCell ⟨w14.heap.size, 1, none⟩ (.slice k4.A k4.k k4.c)) = W at *; generalize hgg : w14.heap.size = g at *; clear hWW hgg)
      | (have HBg := Lib.hid (show Blk ((w15.setCell ⟨w12.heap.size, 0, none⟩ (.bool k4.neg)).setCell ⟨w12.heap.size, 1, none⟩ (.slice k4.A k4.k k4.c)) w12.heap.size 25 #[.bool k4.neg, .slice k4.A k4.k k4.c] from (HBm.out.set_ 0 (.bool k4.neg)).set_ 1 (.slice k4.A k4.k k4.c)); have Hkn := Lib.hid ((Hk4.out.set (a := ⟨w12.heap.size, 0, none⟩) (Nat.lt_irrefl _) (.bool k4.neg)).set (a := ⟨w12.heap.size, 1, none⟩) (Nat.lt_irrefl _) (.slice k4.A k4.k k4.c)); replace HT := Lib.hid ((HT.out.set (a := ⟨w12.heap.size, 0, none⟩) (Nat.not_lt.2 (Nat.le_of_lt lw12)) (.bool k4.neg)).set (a := ⟨w12.heap.size, 1, none⟩) (Nat.not_lt.2 (Nat.le_of_lt lw12)) (.slice k4.A k4.k k4.c)); replace Hbel := Lib.hid ((Hbel.out.setCell (p := ⟨w12.heap.size, 0, none⟩) (Nat.le_of_lt lw12) (.bool k4.neg)).setCell (p := ⟨w12.heap.size, 1, none⟩) (Nat.le_of_lt lw12) (.slice k4.A k4.k k4.c)); generalize hWW : ((w15.setCell ⟨w12.heap.size, 0, none⟩ (.bool k4.neg)).setCell ⟨w12.heap.size, 1, none⟩ (.slice k4.A k4.k k4.c)) = W at *; generalize hgg : w12.heap.size = g at *; clear hWW hgg)
      | (have HBg := Lib.hid (show Blk ((w15.setCell ⟨w10.heap.size, 0, none⟩ (.bool k4.neg)).setCell ⟨w10.heap.size, 1, none⟩ (.slice k4.A k4.k k4.c)) w10.heap.size 25 #[.bool k4.neg, .slice k4.A k4.k k4.c] from (HBm.out.set_ 0 (.bool k4.neg)).set_ 1 (.slice k4.A k4.k k4.c)); have Hkn := Lib.hid ((Hk4.out.set (a := ⟨w10.heap.size, 0, none⟩) (Nat.lt_irrefl _) (.bool k4.neg)).set (a := ⟨w10.heap.size, 1, none⟩) (Nat.lt_irrefl _) (.slice k4.A k4.k k4.c)); replace HT := Lib.hid ((HT.out.set (a := ⟨w10.heap.size, 0, none⟩) (Nat.not_lt.2 (Nat.le_of_lt lw10)) (.bool k4.neg)).set (a := ⟨w10.heap.size, 1, none⟩) (Nat.not_lt.2 (Nat.le_of_lt lw10)) (.slice k4.A k4.k k4.c)); replace Hbel := Lib.hid ((Hbel.out.setCell (p := ⟨w10.heap.size, 0, none⟩) (Nat.le_of_lt lw10) (.bool k4.neg)).setCell (p := ⟨w10.heap.size, 1, none⟩) (Nat.le_of_lt lw10) (.slice k4.A k4.k k4.c)); generalize hWW : ((w15.setCell ⟨w10.heap.size, 0, none⟩ (.bool k4.neg)).setCell ⟨w10.heap.size, 1, none⟩ (.slice k4.A k4.k k4.c)) = W at *; generalize hgg : w10.heap.size = g at *; clear hWW hgg)
      | (have HBg := Lib.hid (Blk.new w15 25 #[.bool k4.neg, .slice k4.A k4.k k4.c]); have Hkn := Lib.hid (Hk4.out.alloc (.cells #[.bool k4.neg, .slice k4.A k4.k k4.c] 25)); replace HT := Lib.hid (HT.out.alloc (.cells #[.bool k4.neg, .slice k4.A k4.k k4.c] 25)); replace Hbel := Lib.hid (Hbel.out.alloc Hbel.out.size (.cells #[.bool k4.neg, .slice k4.A k4.k k4.c] 25)); generalize hWW : (w15.alloc (.cells #[.bool k4.neg, .slice k4.A k4.k k4.c] 25)) = W at *; generalize hgg : w15.heap.size = g at *; clear hWW hgg)
    have c0 : W.cell? ⟨g, 0, none⟩ = some (.bool k4.neg) := HBg.out.cell 0
    have c1 : W.cell? ⟨g, 1, none⟩ = some (.slice k4.A k4.k k4.c) := HBg.out.cell 1
    go_wp2_with fail
    go_region_held3 (fun W => W.cell? ⟨g, 0, none⟩ = some (.bool k4.neg) ∧ W.cell? ⟨g, 1, none⟩ = some (.slice k4.A k4.k k4.c)) (go_keep)
      (first
        | (go_at_call 10; go_must (refine (Htx4.out _ k4 (by first | exact Hkn.out.now | exact Hkn.out.drew.now | exact (Hkn.out.alloc _).now | exact (Hkn.out.drew.alloc _).now) (by first | exact HT.out.now | exact HT.out.drew.now | exact (HT.out.alloc _).now | exact (HT.out.drew.alloc _).now)).mono ?_; rintro e w16 ⟨rfl, hb16⟩; replace HBg := Lib.hid (Blk.below (by exact HBg.out) hb16 (by exact HBg.out.lt)); have sw16HBg0 : w16.cell? ⟨g, 0, none⟩ = some (.bool k4.neg) := HBg.out.cell 0; have sw16HBg1 : w16.cell? ⟨g, 1, none⟩ = some (.slice k4.A k4.k k4.c) := HBg.out.cell 1; replace HT := Lib.hid (Rests.below (φ := Tab) (by first | exact HT.out | exact HT.out.drew) hb16); replace Hbel := Lib.hid (Below.after (by first | exact Hbel.out | exact Below.drew Hbel.out) hb16); clear hb16))
        | (go_at_call 11; go_must (refine (awake_any _ (by first | exact HT.out.now | exact HT.out.drew.now | exact (HT.out.alloc _).now | exact (HT.out.drew.alloc _).now)).mono ?_; rintro e w17 ⟨rfl, hb17⟩; replace HBg := Lib.hid (Blk.below (by exact HBg.out) hb17 (by exact HBg.out.lt)); have sw17HBg0 : w17.cell? ⟨g, 0, none⟩ = some (.bool k4.neg) := HBg.out.cell 0; have sw17HBg1 : w17.cell? ⟨g, 1, none⟩ = some (.slice k4.A k4.k k4.c) := HBg.out.cell 1; replace Hbel := Lib.hid (Below.after (by first | exact Hbel.out | exact Below.drew Hbel.out) hb17); clear hb17)))
    all_goals
      go_wp2_with fail
      go_ret
      exact ⟨rfl, Hbel.out⟩
end Go.Proofs.YthffandpjjnkhaaDoor
