/-
  tripwirelaw03.DigitsBack: its early ways, and all.
-/
import Derived.Test.YthffandpjjnkhaaDoorBackW
import Derived.Test.YthffandpjjnkhaaDoorArg
namespace Go.Proofs.YthffandpjjnkhaaDoor
open Go.RowKit

set_option maxRecDepth 100000 in
set_option maxHeartbeats 1000000 in
theorem back_long (w : World) (i : IV) (s : ByteArray) (d : Int) (htab : Tab w) (hk : 30 < i.k) :
    Calls Tryd.prog 6 #[.agg #[.bool i.neg, .slice i.A i.k i.c], .string s, .int .u8 d] w fun e w' => e = .returned (.bool true) ∧ Below w.heap.size w w' := by
  have Hst : Hid (∀ W, Calls Tryd.prog 12 #[.agg #[.bool i.neg, .slice i.A i.k i.c], .int .i64 30] W fun e w' => e = .returned (.bool false) ∧ Below W.heap.size W w') := fun W => by
    have h1 := shortInt_any W i.neg i.A i.k i.c 30
    rw [decide_eq_false (by omega)] at h1; exact h1
  have HBa := Lib.hid ((by have := Blk.new w 25 #[.bool i.neg, .slice i.A i.k i.c]; simpa using this : Blk (w.alloc (.cells #[.bool i.neg, .slice i.A i.k i.c] 25)) (w.heap.size) 25 #[.bool i.neg, .slice i.A i.k i.c]))
  have HT := Lib.hid ((htab.old).alloc (.cells #[.bool i.neg, .slice i.A i.k i.c] 25))
  have Hbel := Lib.hid (show Below w.heap.size w (w.alloc (.cells #[.bool i.neg, .slice i.A i.k i.c] 25)) from ((Below.refl w.heap.size w).alloc (by simp; try omega) (.cells #[.bool i.neg, .slice i.A i.k i.c] 25)))
  clear htab hk
  go_enter Tryd.func6, Tryd.ntmps6
  go_wp2_with fail
  refine (Hst.out _).mono ?_
  rintro e w1 ⟨rfl, hb1⟩
  replace HBa := Lib.hid (Blk.below (by exact HBa.out) hb1 (by exact HBa.out.lt))
  have sw1HBa0 : w1.cell? ⟨w.heap.size, 0, none⟩ = some (.bool i.neg) := HBa.out.cell 0
  have sw1HBa1 : w1.cell? ⟨w.heap.size, 1, none⟩ = some (.slice i.A i.k i.c) := HBa.out.cell 1
  replace HT := Lib.hid (Rests.below (φ := Tab) (by first | exact HT.out | exact HT.out.drew) hb1)
  replace Hbel := Lib.hid (Below.after (by first | exact Hbel.out | exact Below.drew Hbel.out) hb1)
  clear hb1
  go_wp2_with fail
  refine (awake_any _ (by first | exact HT.out.now | exact HT.out.drew.now)).mono ?_
  rintro e w2 ⟨rfl, hb2⟩
  replace HBa := Lib.hid (Blk.below (by exact HBa.out) hb2 (by exact HBa.out.lt))
  have sw2HBa0 : w2.cell? ⟨w.heap.size, 0, none⟩ = some (.bool i.neg) := HBa.out.cell 0
  have sw2HBa1 : w2.cell? ⟨w.heap.size, 1, none⟩ = some (.slice i.A i.k i.c) := HBa.out.cell 1
  replace Hbel := Lib.hid (Below.after (by first | exact Hbel.out | exact Below.drew Hbel.out) hb2)
  clear hb2
  go_wp2_with fail
  go_ret
  exact ⟨rfl, Hbel.out⟩

set_option maxRecDepth 100000 in
set_option maxHeartbeats 1000000 in
theorem back_text (w : World) (i : IV) (s : ByteArray) (d : Int) (htab : Tab w) (hk : i.k ≤ 30) (hs : 700 < s.size) :
    Calls Tryd.prog 6 #[.agg #[.bool i.neg, .slice i.A i.k i.c], .string s, .int .u8 d] w fun e w' => e = .returned (.bool true) ∧ Below w.heap.size w w' := by
  have Hst : Hid (∀ W, Calls Tryd.prog 12 #[.agg #[.bool i.neg, .slice i.A i.k i.c], .int .i64 30] W fun e w' => e = .returned (.bool true) ∧ Below W.heap.size W w') := fun W => by
    have h1 := shortInt_any W i.neg i.A i.k i.c 30
    rw [decide_eq_true hk] at h1; exact h1
  have hs7 : (700 : Int) < (s.size : Int) := by omega
  have HBa := Lib.hid ((by have := Blk.new w 25 #[.bool i.neg, .slice i.A i.k i.c]; simpa using this : Blk (w.alloc (.cells #[.bool i.neg, .slice i.A i.k i.c] 25)) (w.heap.size) 25 #[.bool i.neg, .slice i.A i.k i.c]))
  have HT := Lib.hid ((htab.old).alloc (.cells #[.bool i.neg, .slice i.A i.k i.c] 25))
  have Hbel := Lib.hid (show Below w.heap.size w (w.alloc (.cells #[.bool i.neg, .slice i.A i.k i.c] 25)) from ((Below.refl w.heap.size w).alloc (by simp; try omega) (.cells #[.bool i.neg, .slice i.A i.k i.c] 25)))
  clear htab hk
  go_enter Tryd.func6, Tryd.ntmps6
  go_wp2_with fail
  refine (Hst.out _).mono ?_
  rintro e w1 ⟨rfl, hb1⟩
  replace HBa := Lib.hid (Blk.below (by exact HBa.out) hb1 (by exact HBa.out.lt))
  have sw1HBa0 : w1.cell? ⟨w.heap.size, 0, none⟩ = some (.bool i.neg) := HBa.out.cell 0
  have sw1HBa1 : w1.cell? ⟨w.heap.size, 1, none⟩ = some (.slice i.A i.k i.c) := HBa.out.cell 1
  replace HT := Lib.hid (Rests.below (φ := Tab) (by first | exact HT.out | exact HT.out.drew) hb1)
  replace Hbel := Lib.hid (Below.after (by first | exact Hbel.out | exact Below.drew Hbel.out) hb1)
  clear hb1
  go_wp2_with fail
  refine (awake_any _ (by first | exact HT.out.now | exact HT.out.drew.now)).mono ?_
  rintro e w2 ⟨rfl, hb2⟩
  replace HBa := Lib.hid (Blk.below (by exact HBa.out) hb2 (by exact HBa.out.lt))
  have sw2HBa0 : w2.cell? ⟨w.heap.size, 0, none⟩ = some (.bool i.neg) := HBa.out.cell 0
  have sw2HBa1 : w2.cell? ⟨w.heap.size, 1, none⟩ = some (.slice i.A i.k i.c) := HBa.out.cell 1
  replace Hbel := Lib.hid (Below.after (by first | exact Hbel.out | exact Below.drew Hbel.out) hb2)
  clear hb2
  go_wp2_with fail
  go_ret
  exact ⟨rfl, Hbel.out⟩

set_option maxRecDepth 100000 in
theorem digitsBack_any (w : World) (neg : Bool) (A : Option Addr) (c : Nat) (l : List Nat) (hlc : l.length ≤ c) (_ : c ≤ maxLen) (hr : Rd w .u64 A l) (hx : ∀ x ∈ l, x < B64) (s : ByteArray) (_ : s.size ≤ maxLen) (z : Int) (hz : (Lit.int .u8 z).wf = true) (ht : Tab w) :
    Calls Tryd.prog 6 #[.agg #[.bool neg, .slice A l.length c], .string s, .int .u8 z] w fun e w' => e = .returned (.bool true) ∧ Below w.heap.size w w' := by
  by_cases hl : 30 < l.length
  · exact back_long w ⟨neg, A, l.length, c⟩ s z ht hl
  by_cases hs : 700 < s.size
  · exact back_text w ⟨neg, A, l.length, c⟩ s z ht (show l.length ≤ 30 by omega) hs
  have hb := bounds_u8 hz
  obtain ⟨d, rfl⟩ := Int.eq_ofNat_of_zero_le hb.1
  have hi : IntD ⟨neg, A, l.length, c⟩ (iv neg (val B64 l)) 30 w := ⟨⟨l, rfl, hr, hx, rfl⟩, hlc, (show l.length ≤ 30 by omega)⟩
  have hd : d < 256 := by omega
  by_cases hp : (parseN s.data.toList).1 = 0
  · rcases Int.lt_trichotomy (iv neg (val B64 l)) 0 with h | h | h
    · exact back_ok_neg w ⟨neg, A, l.length, c⟩ (iv neg (val B64 l)) s d hi (Nat.not_lt.1 hs) hd ht hp h
    · exact back_ok_zero w ⟨neg, A, l.length, c⟩ (iv neg (val B64 l)) s d hi (Nat.not_lt.1 hs) hd ht hp h
    · exact back_ok_pos w ⟨neg, A, l.length, c⟩ (iv neg (val B64 l)) s d hi (Nat.not_lt.1 hs) hd ht hp h
  · rcases Int.lt_trichotomy (iv neg (val B64 l)) 0 with h | h | h
    · exact back_no_neg w ⟨neg, A, l.length, c⟩ (iv neg (val B64 l)) s d hi (Nat.not_lt.1 hs) hd ht hp h
    · exact back_no_zero w ⟨neg, A, l.length, c⟩ (iv neg (val B64 l)) s d hi (Nat.not_lt.1 hs) hd ht hp h
    · exact back_no_pos w ⟨neg, A, l.length, c⟩ (iv neg (val B64 l)) s d hi (Nat.not_lt.1 hs) hd ht hp h
end Go.Proofs.YthffandpjjnkhaaDoor
