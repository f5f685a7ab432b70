/-
 Plain facts: a number's text is read as that number; a numeral is the text of what it says; a digit more. ratio.Text; tripwirelaw04.is. strings.Cut at "/"; ratio.Parse. ratio.Parse. Tokens of a text, in plain Lean: over any reader of numbers; two texts one behind the other; tokens that are written. tokens.letter, digit, end by each of its closures, skip. tokens.token. Lists of elements of more than one cell: read, made by append. Lists of tokens in memory. tokens.Tokens.
-/
import Derived.Test.YtplhmeiciiajcaaGreatDoorText
import Derived.Test.YtplhmeiciiajcaaGreatDoorSL
import Derived.Test.YtplhmeiciiajcaaGreatDoorShelf
import Derived.Test.YtplhmeiciiajcaaGreatDoorQC
import Derived.Test.YtplhmeiciiajcaaGreatDoorMath
import Derived.Test.YtplhmeiciiajcaaGreatDoorVal
import Derived.Test.YtplhmeiciiajcaaGreatDoorOwn
import Derived.Lib.CutLaws
import Derived.Deep.DeepMust
import Derived.Deep.DeepCutAuto
import Derived.Maps.AppendAt
namespace Go.Proofs.YtplhmeiciiajcaaGreatDoor
set_option maxHeartbeats 4000000

theorem dec_length {v k : Nat} (h : v < 10 ^ k) (hk : 0 < k) : (Lib.decDigits v).length ≤ k := by
 induction k generalizing v with
 | zero => omega
 | succ k ih =>
  by_cases h10 : v < 10
  ·rw [Lib.decDigits_one h10]; simp
  ·rw [dec_big h10]
   rcases Nat.eq_zero_or_pos k with rfl | hk'
   ·simp at h; omega
   ·have := ih (v := v / 10) (by rw [Nat.pow_succ] at h; omega) hk'
    simp; omega
open Go.RowKit

theorem text_i {W : World} {i : IV} {z : Int} {n : Nat} (h : IntD i z n W) (hn : n ≤ 1048576) (ht : Tab W) :
 Calls Tryz.prog 46 #[iA i] W fun e w' => e = .returned (strV (intText (decide (z < 0)) z.natAbs)) ∧ Below W.heap.size W w' := by
 obtain ⟨l, hk, hr, hx, rfl⟩ := h.ex
 have h1 := h.le
 have h2 := text_any W i.neg i.A i.c l (by omega) hr hx ht
 have e : intText i.neg (val B64 l) = intText (decide (iv i.neg (val B64 l) < 0)) (iv i.neg (val B64 l)).natAbs := by
  rw [iv_natAbs]
  unfold intText
  by_cases h0 : val B64 l = 0
  ·rw [if_pos h0, if_pos h0]
  ·rw [if_neg h0, if_neg h0]
   have : i.neg = decide (iv i.neg (val B64 l) < 0) := by unfold iv; cases i.neg <;> simp <;> omega
   rw [← this]
 rw [← hk, e] at h2
 exact h2
def ratText (q : Rat) : List UInt8 := intText (decide (q.num < 0)) q.num.natAbs ++ (if q.den = 1 then [] else 47 :: intText false q.den)
theorem ten_B (n : Nat) : B64 ^ n ≤ 10 ^ (20 * n) := by
 have h1 : B64 ^ n ≤ (10 ^ 20) ^ n := Nat.pow_le_pow_left (by decide) _
 rw [← Nat.pow_mul] at h1
 exact h1
theorem txt_len {neg : Bool} {v n : Nat} (h : v < B64 ^ n) (hn : 0 < n) : (intText neg v).length ≤ 20 * n + 1 := by
 have h1 := dec_length (k := 20 * n) (Nat.lt_of_lt_of_le h (ten_B n)) (by omega)
 unfold intText
 split
 ·simp
 ·split <;> simp <;> omega

set_option maxRecDepth 100000 in
theorem rtext_one (w : World) (r : RV) (q : Rat) (n : Nat) (hn : n ≤ 1048576) (h1n : 1 ≤ n) (h : RatD r q n w) (hT : Tz w) (ht : Tab w) (hd : q.den = 1) :
 Calls Tryz.prog 22 #[rA r] w fun e w' => e = .returned (strV (ratText q)) ∧ Below w.heap.size w w' := by
 have hsz := h.sz h1n
 have HLn := Lib.hid hsz.1
 have HLd := Lib.hid (show (dn q).natAbs < B64 ^ n from by unfold dn; split <;> first | exact Nat.pow_pos B64_pos | exact hsz.2)
 obtain ⟨T1, hT1⟩ : ∃ T1 : ByteArray, T1 = ⟨(intText (decide (q.num < 0)) q.num.natAbs).toArray⟩ := ⟨_, rfl⟩
 have hs1 : T1.size ≤ 20 * n + 1 := by rw [hT1, size_str]; exact txt_len hsz.1 h1n
 have HF := Lib.hid (show strV (ratText q) = .string T1 from by unfold ratText; rw [if_pos hd, List.append_nil, hT1])
 have Htx1 := Lib.hid (fun (W : World) (i : IV) (h1 : IntN i q.num W) (h2 : Tab W) => (show Calls Tryz.prog 46 #[.agg #[.bool i.neg, .slice i.A i.k i.c]] W fun e w' => e = .returned (.string T1) ∧ Below W.heap.size W w' from by
  have h3 := text_i (h1.ofLt HLn.out) (by omega) h2
  rw [hT1]; exact h3))
 obtain ⟨W0, hW0⟩ : ∃ W0, W0 = (w.alloc (.cells #[.bool r.num.neg, .slice r.num.A r.num.k r.num.c, .bool r.den.neg, .slice r.den.A r.den.k r.den.c] 30)) := ⟨_, rfl⟩
 obtain ⟨p0, pb⟩ := lay1 hW0
 have HBa := Lib.hid p0
 have Hbel := Lib.hid pb
 have Hx := Lib.hid (Rests.al1 (h.old) hW0)
 have HT := Lib.hid (Rests.al1 (hT.old) hW0)
 have Ht := Lib.hid (Rests.al1 (ht.old) hW0)
 clear p0 pb
 subst hW0
 clear h hT ht hT1 hsz
 have Hd := Lib.hid hd
 clear hd
 unfold rA
 go_enter Tryz.func22, Tryz.ntmps22
 go_wp2_with fail
 refine (rnorm_any _ r q n (by omega) h1n (by first | exact Hx.out.now | exact Hx.out.drew.now) (by first | exact HT.out.now | exact HT.out.drew.now)).mono ?_
 rintro e w1 ⟨rr, rfl, hrr, hb1⟩
 have hgl := HBa.out.lt
 replace HBa := Lib.hid (Blk.below (by exact HBa.out) hb1 (by exact HBa.out.lt))
 obtain ⟨sw1HBa0, sw1HBa1, sw1HBa2, sw1HBa3⟩ := Blk.c4 HBa.out
 obtain ⟨fw1HBa0, fw1HBa1, fw1HBa2, fw1HBa3⟩ := Blk.f4 HBa.out
 replace Ht := Lib.hid (Rests.below (φ := Tab) (by first | exact Ht.out | exact Ht.out.drew) hb1)
 replace Hbel := Lib.hid (Below.after (by first | exact Hbel.out | exact Below.drew Hbel.out) hb1)
 have Hrr := Lib.hid (hrr.mono (G := (w.heap.size + 1 ≤ ·)) (fun b hb => Nat.le_trans hgl hb))
 clear hrr hgl
 clear hb1
 have hk := (dn_k Hrr.out.now)
 have hk0 : ((rr.den.k : Int)) = 0 := by have hk1 := Hd.out; omega
 clear hk
 go_wp2_with fail
 replace HBa := Lib.hid (((((HBa.out).set_ 0 (.bool rr.num.neg)).set_ 1 (.slice rr.num.A rr.num.k rr.num.c)).set_ 2 (.bool rr.den.neg)).set_ 3 (.slice rr.den.A rr.den.k rr.den.c))
 replace Ht := Lib.hid (((((Ht.out).set (a := ⟨w.heap.size, 0, none⟩) (by simp) (.bool rr.num.neg)).set (a := ⟨w.heap.size, 1, none⟩) (by simp) (.slice rr.num.A rr.num.k rr.num.c)).set (a := ⟨w.heap.size, 2, none⟩) (by simp) (.bool rr.den.neg)).set (a := ⟨w.heap.size, 3, none⟩) (by simp) (.slice rr.den.A rr.den.k rr.den.c))
 replace Hrr := Lib.hid (((((Hrr.out).set (a := ⟨w.heap.size, 0, none⟩) (by simp) (.bool rr.num.neg)).set (a := ⟨w.heap.size, 1, none⟩) (by simp) (.slice rr.num.A rr.num.k rr.num.c)).set (a := ⟨w.heap.size, 2, none⟩) (by simp) (.bool rr.den.neg)).set (a := ⟨w.heap.size, 3, none⟩) (by simp) (.slice rr.den.A rr.den.k rr.den.c))
 replace Hbel := Lib.hid (((((Hbel.out).setCell (p := ⟨w.heap.size, 0, none⟩) (by simp) (.bool rr.num.neg)).setCell (p := ⟨w.heap.size, 1, none⟩) (by simp) (.slice rr.num.A rr.num.k rr.num.c)).setCell (p := ⟨w.heap.size, 2, none⟩) (by simp) (.bool rr.den.neg)).setCell (p := ⟨w.heap.size, 3, none⟩) (by simp) (.slice rr.den.A rr.den.k rr.den.c))
 have vHBa0 : World.cell? _ ⟨w.heap.size, 0, none⟩ = some (.bool rr.num.neg) := HBa.out.cell 0
 have vHBa1 : World.cell? _ ⟨w.heap.size, 1, none⟩ = some (.slice rr.num.A rr.num.k rr.num.c) := HBa.out.cell 1
 have vHBa2 : World.cell? _ ⟨w.heap.size, 2, none⟩ = some (.bool rr.den.neg) := HBa.out.cell 2
 have vHBa3 : World.cell? _ ⟨w.heap.size, 3, none⟩ = some (.slice rr.den.A rr.den.k rr.den.c) := HBa.out.cell 3
 refine (Htx1.out _ rr.num (RatN.num (by first | exact Hrr.out.now | exact Hrr.out.drew.now)) (by first | exact Ht.out.now | exact Ht.out.drew.now)).mono ?_
 rintro e w2 ⟨rfl, hb2⟩
 replace HBa := Lib.hid (Blk.below (by exact HBa.out) hb2 (by exact HBa.out.lt))
 obtain ⟨sw2HBa0, sw2HBa1, sw2HBa2, sw2HBa3⟩ := Blk.c4 HBa.out
 obtain ⟨fw2HBa0, fw2HBa1, fw2HBa2, fw2HBa3⟩ := Blk.f4 HBa.out
 replace Ht := Lib.hid (Rests.below (φ := Tab) (by first | exact Ht.out | exact Ht.out.drew) hb2)
 replace Hrr := Lib.hid (Rests.below (φ := RatN rr q) (by first | exact Hrr.out | exact Hrr.out.drew) hb2)
 replace Hbel := Lib.hid (Below.after (by first | exact Hbel.out | exact Below.drew Hbel.out) hb2)
 clear hb2
 go_wp2_with fail
 go_ret
 exact ⟨by rw [HF.out]; rfl, Hbel.out⟩

set_option maxRecDepth 100000 in
theorem rtext_more (w : World) (r : RV) (q : Rat) (n : Nat) (hn : n ≤ 1048576) (h1n : 1 ≤ n) (h : RatD r q n w) (hT : Tz w) (ht : Tab w) (hd : q.den ≠ 1) :
 Calls Tryz.prog 22 #[rA r] w fun e w' => e = .returned (strV (ratText q)) ∧ Below w.heap.size w w' := by
 have hsz := h.sz h1n
 have HLn := Lib.hid hsz.1
 have HLd := Lib.hid (show (dn q).natAbs < B64 ^ n from by unfold dn; split <;> first | exact Nat.pow_pos B64_pos | exact hsz.2)
 obtain ⟨T1, hT1⟩ : ∃ T1 : ByteArray, T1 = ⟨(intText (decide (q.num < 0)) q.num.natAbs).toArray⟩ := ⟨_, rfl⟩
 have hs1 : T1.size ≤ 20 * n + 1 := by rw [hT1, size_str]; exact txt_len hsz.1 h1n
 obtain ⟨T2, hT2⟩ : ∃ T2 : ByteArray, T2 = ⟨(intText false q.den).toArray⟩ := ⟨_, rfl⟩
 have hs2 : T2.size ≤ 20 * n + 1 := by rw [hT2, size_str]; exact txt_len hsz.2 h1n
 have hdn : dn q = (q.den : Int) := by unfold dn; rw [if_neg hd]
 have HF := Lib.hid (show strV (ratText q) = .string (T1 ++ (⟨#[47]⟩ ++ T2)) from by
  unfold ratText; rw [if_neg hd, hT1, hT2]
  show Value.string _ = Value.string _
  congr 1)
 have Htx2 := Lib.hid (fun (W : World) (i : IV) (h1 : IntN i (dn q) W) (h2 : Tab W) => (show Calls Tryz.prog 46 #[.agg #[.bool i.neg, .slice i.A i.k i.c]] W fun e w' => e = .returned (.string T2) ∧ Below W.heap.size W w' from by
  have h3 := text_i (h1.ofLt HLd.out) (by omega) h2
  rw [hdn, decide_eq_false (by omega)] at h3
  rw [hT2]; exact h3))
 have hc1 := fun (W : World) => run_string_add_sum (P := Tryz.prog) W ⟨#[47]⟩ T2 (by rw [show (⟨#[47]⟩ : ByteArray).size = 1 from rfl]; omega)
 have hc2 := fun (W : World) => run_string_add_sum (P := Tryz.prog) W T1 (⟨#[47]⟩ ++ T2) (by rw [ByteArray.size_append, show (⟨#[47]⟩ : ByteArray).size = 1 from rfl]; omega)
 have ha2 : ((⟨#[47]⟩ : ByteArray) ++ T2).size = 1 + T2.size := by rw [ByteArray.size_append]; rfl
 have Htx1 := Lib.hid (fun (W : World) (i : IV) (h1 : IntN i q.num W) (h2 : Tab W) => (show Calls Tryz.prog 46 #[.agg #[.bool i.neg, .slice i.A i.k i.c]] W fun e w' => e = .returned (.string T1) ∧ Below W.heap.size W w' from by
  have h3 := text_i (h1.ofLt HLn.out) (by omega) h2
  rw [hT1]; exact h3))
 obtain ⟨W0, hW0⟩ : ∃ W0, W0 = (w.alloc (.cells #[.bool r.num.neg, .slice r.num.A r.num.k r.num.c, .bool r.den.neg, .slice r.den.A r.den.k r.den.c] 30)) := ⟨_, rfl⟩
 obtain ⟨p0, pb⟩ := lay1 hW0
 have HBa := Lib.hid p0
 have Hbel := Lib.hid pb
 have Hx := Lib.hid (Rests.al1 (h.old) hW0)
 have HT := Lib.hid (Rests.al1 (hT.old) hW0)
 have Ht := Lib.hid (Rests.al1 (ht.old) hW0)
 clear p0 pb
 subst hW0
 clear h hT ht hT1 hT2 hdn hsz
 have Hd := Lib.hid hd
 clear hd
 unfold rA
 go_enter Tryz.func22, Tryz.ntmps22
 go_wp2_with fail
 refine (rnorm_any _ r q n (by omega) h1n (by first | exact Hx.out.now | exact Hx.out.drew.now) (by first | exact HT.out.now | exact HT.out.drew.now)).mono ?_
 rintro e w1 ⟨rr, rfl, hrr, hb1⟩
 have hgl := HBa.out.lt
 replace HBa := Lib.hid (Blk.below (by exact HBa.out) hb1 (by exact HBa.out.lt))
 obtain ⟨sw1HBa0, sw1HBa1, sw1HBa2, sw1HBa3⟩ := Blk.c4 HBa.out
 obtain ⟨fw1HBa0, fw1HBa1, fw1HBa2, fw1HBa3⟩ := Blk.f4 HBa.out
 replace Ht := Lib.hid (Rests.below (φ := Tab) (by first | exact Ht.out | exact Ht.out.drew) hb1)
 replace Hbel := Lib.hid (Below.after (by first | exact Hbel.out | exact Below.drew Hbel.out) hb1)
 have Hrr := Lib.hid (hrr.mono (G := (w.heap.size + 1 ≤ ·)) (fun b hb => Nat.le_trans hgl hb))
 clear hrr hgl
 clear hb1
 have hk := (dn_k Hrr.out.now)
 have hk0 : (0 : Int) < (rr.den.k : Int) := by have hk1 := Hd.out; omega
 clear hk
 go_wp2_with fail
 replace HBa := Lib.hid (((((HBa.out).set_ 0 (.bool rr.num.neg)).set_ 1 (.slice rr.num.A rr.num.k rr.num.c)).set_ 2 (.bool rr.den.neg)).set_ 3 (.slice rr.den.A rr.den.k rr.den.c))
 replace Ht := Lib.hid (((((Ht.out).set (a := ⟨w.heap.size, 0, none⟩) (by simp) (.bool rr.num.neg)).set (a := ⟨w.heap.size, 1, none⟩) (by simp) (.slice rr.num.A rr.num.k rr.num.c)).set (a := ⟨w.heap.size, 2, none⟩) (by simp) (.bool rr.den.neg)).set (a := ⟨w.heap.size, 3, none⟩) (by simp) (.slice rr.den.A rr.den.k rr.den.c))
 replace Hrr := Lib.hid (((((Hrr.out).set (a := ⟨w.heap.size, 0, none⟩) (by simp) (.bool rr.num.neg)).set (a := ⟨w.heap.size, 1, none⟩) (by simp) (.slice rr.num.A rr.num.k rr.num.c)).set (a := ⟨w.heap.size, 2, none⟩) (by simp) (.bool rr.den.neg)).set (a := ⟨w.heap.size, 3, none⟩) (by simp) (.slice rr.den.A rr.den.k rr.den.c))
 replace Hbel := Lib.hid (((((Hbel.out).setCell (p := ⟨w.heap.size, 0, none⟩) (by simp) (.bool rr.num.neg)).setCell (p := ⟨w.heap.size, 1, none⟩) (by simp) (.slice rr.num.A rr.num.k rr.num.c)).setCell (p := ⟨w.heap.size, 2, none⟩) (by simp) (.bool rr.den.neg)).setCell (p := ⟨w.heap.size, 3, none⟩) (by simp) (.slice rr.den.A rr.den.k rr.den.c))
 have vHBa0 : World.cell? _ ⟨w.heap.size, 0, none⟩ = some (.bool rr.num.neg) := HBa.out.cell 0
 have vHBa1 : World.cell? _ ⟨w.heap.size, 1, none⟩ = some (.slice rr.num.A rr.num.k rr.num.c) := HBa.out.cell 1
 have vHBa2 : World.cell? _ ⟨w.heap.size, 2, none⟩ = some (.bool rr.den.neg) := HBa.out.cell 2
 have vHBa3 : World.cell? _ ⟨w.heap.size, 3, none⟩ = some (.slice rr.den.A rr.den.k rr.den.c) := HBa.out.cell 3
 refine (Htx1.out _ rr.num (RatN.num (by first | exact Hrr.out.now | exact Hrr.out.drew.now)) (by first | exact Ht.out.now | exact Ht.out.drew.now)).mono ?_
 rintro e w2 ⟨rfl, hb2⟩
 replace HBa := Lib.hid (Blk.below (by exact HBa.out) hb2 (by exact HBa.out.lt))
 obtain ⟨sw2HBa0, sw2HBa1, sw2HBa2, sw2HBa3⟩ := Blk.c4 HBa.out
 obtain ⟨fw2HBa0, fw2HBa1, fw2HBa2, fw2HBa3⟩ := Blk.f4 HBa.out
 replace Ht := Lib.hid (Rests.below (φ := Tab) (by first | exact Ht.out | exact Ht.out.drew) hb2)
 replace Hrr := Lib.hid (Rests.below (φ := RatN rr q) (by first | exact Hrr.out | exact Hrr.out.drew) hb2)
 replace Hbel := Lib.hid (Below.after (by first | exact Hbel.out | exact Below.drew Hbel.out) hb2)
 clear hb2
 go_wp2_with fail
 refine (Htx2.out _ rr.den (RatN.den (by first | exact Hrr.out.now | exact Hrr.out.drew.now)) (by first | exact Ht.out.now | exact Ht.out.drew.now)).mono ?_
 rintro e w3 ⟨rfl, hb3⟩
 replace Hbel := Lib.hid (Below.after (by first | exact Hbel.out | exact Below.drew Hbel.out) hb3)
 clear hb3
 go_wp2_with fail
 go_ret
 exact ⟨by rw [HF.out]; rfl, Hbel.out⟩

theorem rtext_any (w : World) (r : RV) (q : Rat) (n : Nat) (hn : n ≤ 1048576) (h1n : 1 ≤ n) (h : RatD r q n w) (hT : Tz w) (ht : Tab w) :
 Calls Tryz.prog 22 #[rA r] w fun e w' => e = .returned (strV (ratText q)) ∧ Below w.heap.size w w' := by
 by_cases hd : q.den = 1
 ·exact rtext_one w r q n hn h1n h hT ht hd
 ·exact rtext_more w r q n hn h1n h hT ht hd

structure Tk where
 kind : Nat
 s : List UInt8
 x : Rat
 line : Nat
def isLet (b : UInt8) : Bool := decide (97 ≤ b) && decide (b ≤ 122)
def isPart (b : UInt8) : Bool := decide (48 ≤ b) && decide (b ≤ 57) || b == 45 || b == 47
def isSign (b : UInt8) : Bool := b == 123 || b == 125 || b == 91 || b == 93 || b == 58 || b == 44
def isBlank (b : UInt8) : Bool := b == 32 || b == 9 || b == 13
def skipG : Bool → List UInt8 → Nat → List UInt8 × Nat
 | _, [], n => ([], n)
 | r, b :: t, n => if b = 10 then skipG false t (n + 1) else if r || isBlank b || b == 35 then skipG (r || b == 35) t n else (b :: t, n)
def tok1 (P : List UInt8 → Nat × Rat) (b : UInt8) (t : List UInt8) (n : Nat) : Nat × Tk × List UInt8 :=
 if isLet b then (0, ⟨2, b :: t.takeWhile isLet, 0, n⟩, t.dropWhile isLet)
 else if isPart b && b != 47 then
  ((if (P (b :: t.takeWhile isPart)).1 = 11 then 20 else (P (b :: t.takeWhile isPart)).1), ⟨3, [], (P (b :: t.takeWhile isPart)).2, n⟩, t.dropWhile isPart)
 else if isSign b then (0, ⟨4, [b], 0, n⟩, t)
 else (20, ⟨0, [], 0, n⟩, t)
def cons1 (k : Tk) (r : Nat × Nat × List Tk) : Nat × Nat × List Tk := if r.1 = 0 then (0, 0, k :: r.2.2) else r
def toks (P : List UInt8 → Nat × Rat) : Nat → List UInt8 → Nat → Nat × Nat × List Tk
 | 0, _, _ => (0, 0, [])
 | f + 1, l, n =>
  match skipG false l n with
  | ([], m) => (0, 0, [⟨1, [], 0, m⟩])
  | (b :: t, m) => if (tok1 P b t m).1 = 0 then cons1 (tok1 P b t m).2.1 (toks P f (tok1 P b t m).2.2 m) else ((tok1 P b t m).1, m, [])
def tokens (P : List UInt8 → Nat × Rat) (l : List UInt8) : Nat × Nat × List Tk := if 262144 < l.length then (3, 0, []) else toks P (l.length + 1) l 1

variable {P : List UInt8 → Nat × Rat}
theorem Blk.c7 {w : World} {g : Nat} {t : TypeId} {a b c d e f h : Value} (H : Blk w g t #[a, b, c, d, e, f, h]) : w.cell? ⟨g, 0, none⟩ = some a ∧ w.cell? ⟨g, 1, none⟩ = some b ∧ w.cell? ⟨g, 2, none⟩ = some c ∧ w.cell? ⟨g, 3, none⟩ = some d ∧ w.cell? ⟨g, 4, none⟩ = some e ∧ w.cell? ⟨g, 5, none⟩ = some f ∧ w.cell? ⟨g, 6, none⟩ = some h := ⟨H.cell 0, H.cell 1, H.cell 2, H.cell 3, H.cell 4, H.cell 5, H.cell 6⟩
theorem Blk.f7 {w : World} {g : Nat} {t : TypeId} {a b c d e f h : Value} (H : Blk w g t #[a, b, c, d, e, f, h]) : w.frozen? ⟨g, 0, none⟩ = false ∧ w.frozen? ⟨g, 1, none⟩ = false ∧ w.frozen? ⟨g, 2, none⟩ = false ∧ w.frozen? ⟨g, 3, none⟩ = false ∧ w.frozen? ⟨g, 4, none⟩ = false ∧ w.frozen? ⟨g, 5, none⟩ = false ∧ w.frozen? ⟨g, 6, none⟩ = false := ⟨H.frozen 0, H.frozen 1, H.frozen 2, H.frozen 3, H.frozen 4, H.frozen 5, H.frozen 6⟩

section
variable {w : World} {g : Nat} {a b c d e f h u0 u1 u2 u3 u4 u5 u6 : Value} {t : TypeId}
end
structure El (w : World) (sz : Nat) (A : Option Addr) (cs : List (Array Value)) : Prop where
 sl : Sl A cs.length
 size : ∀ i, (h : i < cs.length) → (cs[i]).size = sz
 cell : ∀ i, (h : i < cs.length) → ∀ j, j < sz → w.cell? (adr A (i * sz + j)) = (cs[i])[j]?
theorem El.nil_ (w : World) (sz : Nat) (A : Option Addr) : El w sz A [] := ⟨fun h => absurd h (by simp), fun i h => absurd h (by simp), fun i h => absurd h (by simp)⟩
theorem El.lt {w : World} {sz : Nat} {A : Option Addr} {cs : List (Array Value)} (h : El w sz A cs) (i : Nat) (hi : i < cs.length) (j : Nat) (hj : j < sz) : (adr A (i * sz + j)).block < w.heap.size := by
 have h1 := h.cell i hi j hj
 have h2 : j < (cs[i]).size := by rw [h.size i hi]; exact hj
 rw [Array.getElem?_eq_getElem h2] at h1
 exact World.block_lt_of_cell? w _ h1
theorem El.keep {w w' : World} {sz : Nat} {A : Option Addr} {cs : List (Array Value)} (h : El w sz A cs) (hk : ∀ p : Addr, p.block < w.heap.size → p.block = (adr A 0).block → w'.cell? p = w.cell? p) : El w' sz A cs :=
 ⟨h.sl, h.size, fun i hi j hj => (hk _ (h.lt i hi j hj) rfl).trans (h.cell i hi j hj)⟩
theorem El.below {w w' : World} {sz : Nat} {A : Option Addr} {cs : List (Array Value)} (h : El w sz A cs) (hb : Below w.heap.size w w') : El w' sz A cs := h.keep fun _ hp _ => hb.cell hp
theorem El.alloc {w : World} {sz : Nat} {A : Option Addr} {cs : List (Array Value)} (h : El w sz A cs) (o : Obj) : El (w.alloc o) sz A cs := h.keep fun p hp _ => World.cell?_alloc_lt w o p hp
theorem El.drew {w : World} {sz : Nat} {A : Option Addr} {cs : List (Array Value)} (h : El w sz A cs) : El w.drew sz A cs := ⟨h.sl, h.size, h.cell⟩
theorem El.take {w : World} {sz : Nat} {A : Option Addr} {cs : List (Array Value)} (h : El w sz A cs) (n : Nat) : El w sz A (cs.take n) := by
 have hl : (cs.take n).length ≤ cs.length := by simp; omega
 refine ⟨h.sl.mono hl, fun i hi => ?_, fun i hi j hj => ?_⟩
 ·rw [List.getElem_take]; exact h.size i (by omega)
 ·rw [List.getElem_take]; exact h.cell i (by omega) j hj
def flatC (cs : List (Array Value)) : List Value := cs.flatMap Array.toList
theorem flatC_len {sz : Nat} {cs : List (Array Value)} (h : ∀ c ∈ cs, c.size = sz) : (flatC cs).length = cs.length * sz := by
 induction cs with
 | nil => simp [flatC]
 | cons c cs ih =>
  have := ih (fun x hx => h x (by simp [hx]))
  unfold flatC at this ⊢
  simp only [List.flatMap_cons, List.length_append, this, Array.length_toList, h c (by simp), List.length_cons, Nat.add_mul, Nat.one_mul]
  omega
theorem flatC_get {sz : Nat} {cs : List (Array Value)} (h : ∀ c ∈ cs, c.size = sz) (i j : Nat) (hi : i < cs.length) (hj : j < sz) : (flatC cs)[i * sz + j]? = (cs[i])[j]? := by
 induction cs generalizing i with
 | nil => simp at hi
 | cons c cs ih =>
  have hc : c.size = sz := h c (by simp)
  unfold flatC
  rw [List.flatMap_cons]
  match i with
  | 0 =>
   rw [List.getElem?_append_left (by rw [Array.length_toList, hc]; omega)]
   simp
  | i + 1 =>
   rw [List.getElem?_append_right (by rw [Array.length_toList, hc, Nat.add_mul]; omega), Array.length_toList, hc, show (i + 1) * sz + j - sz = i * sz + j from by rw [Nat.add_mul]; omega]
   exact ih (fun x hx => h x (by simp [hx])) i (by simpa using hi)
theorem El.flat {w : World} {sz : Nat} {A : Option Addr} {cs : List (Array Value)} (hsz : 0 < sz) (h : El w sz A cs) : ∀ j u, (flatC cs)[j]? = some u → w.cell? (adr A j) = some u := by
 intro j u hu
 have hc : ∀ c ∈ cs, c.size = sz := fun c hc => by obtain ⟨i, hi, rfl⟩ := List.mem_iff_getElem.1 hc; exact h.size i hi
 have hl := flatC_len hc
 have hj : j < cs.length * sz := by rw [← hl]; exact (List.getElem?_eq_some_iff.1 hu).1
 have h1 : j / sz < cs.length := (Nat.div_lt_iff_lt_mul hsz).2 hj
 have h2 : j % sz < sz := Nat.mod_lt _ hsz
 have e : j / sz * sz + j % sz = j := by rw [Nat.mul_comm]; exact Nat.div_add_mod _ _
 have := h.cell _ h1 _ h2
 rw [← flatC_get hc _ _ h1 h2, e] at this
 rw [this, hu]

def OwnE (w : World) (B : Nat) (e : TypeId) (sz : Nat) (pv : Value) (cs : List (Array Value)) : Prop := (∀ c ∈ cs, c.size = sz) ∧ w.ownsRow B e sz pv cs.length (flatC cs)
theorem OwnE.nil_ (w : World) (B : Nat) (e : TypeId) (sz : Nat) : OwnE w B e sz (.slice none 0 0) [] := ⟨by simp, World.ownsRow_nil _ _ _ _⟩
theorem OwnE.form {w : World} {B : Nat} {e : TypeId} {sz : Nat} {pv : Value} {cs : List (Array Value)} (h : OwnE w B e sz pv cs) : ∃ A c, pv = .slice A cs.length c ∧ cs.length ≤ c ∧ c ≤ maxLen ∧ El w sz A cs ∧ (∀ b, pv.ownBlock = some b → B ≤ b) := by
 obtain ⟨hs, h⟩ := h
 have hs' : ∀ i, (h : i < cs.length) → (cs[i]).size = sz := fun i hi => hs _ (List.getElem_mem hi)
 rcases h.2 with ⟨h1, h2⟩ | ⟨g, cap, cur, hv, hg, hh, hn, hm, hsz, ht⟩
 ·have : cs = [] := List.eq_nil_of_length_eq_zero h2
  subst this
  exact ⟨none, 0, h1, Nat.le_refl _, by simp [maxLen], El.nil_ _ _ _, by rw [h1]; intro b hb; cases hb⟩
 ·refine ⟨some ⟨g, 0, none⟩, cap, hv, hn, hm, ⟨Sl.some_ _ _ _, hs', fun i hi j hj => ?_⟩, ?_⟩
  ·have hlt : i * sz + j < cs.length * sz := by
    have : (i + 1) * sz ≤ cs.length * sz := Nat.mul_le_mul_right _ hi
    rw [Nat.add_mul] at this; omega
   have hc : w.cell? (adr (some ⟨g, 0, none⟩) (i * sz + j)) = cur[i * sz + j]? := by simp [World.cell?, adr, hh]
   have h2 : (cur.toList.take (cs.length * sz))[i * sz + j]? = cur[i * sz + j]? := by rw [List.getElem?_take, if_pos hlt]; simp
   rw [hc, ← h2, ht]
   exact flatC_get hs i j hi hj
  ·rw [hv]; intro b hb; cases hb; exact hg
theorem OwnE.keep {w w' : World} {B : Nat} {e : TypeId} {sz : Nat} {pv : Value} {cs : List (Array Value)} (h : OwnE w B e sz pv cs) (hk : ∀ b, b < w.heap.size → pv.ownBlock = some b → w'.heap[b]? = w.heap[b]?) : OwnE w' B e sz pv cs := by
 refine ⟨h.1, h.2.1, ?_⟩
 rcases h.2.2 with h2 | ⟨g, cap, cur, hv, hg, hh, r⟩
 ·exact .inl h2
 ·exact .inr ⟨g, cap, cur, hv, hg, by rw [hk g (Array.getElem?_eq_some_iff.1 hh).1 (by rw [hv]; rfl)]; exact hh, r⟩
theorem OwnE.below {w w' : World} {B : Nat} {e : TypeId} {sz : Nat} {pv : Value} {cs : List (Array Value)} (h : OwnE w B e sz pv cs) (hb : Below w.heap.size w w') : OwnE w' B e sz pv cs := h.keep fun b hlt _ => hb.block b hlt
theorem OwnE.alloc {w : World} {B : Nat} {e : TypeId} {sz : Nat} {pv : Value} {cs : List (Array Value)} (h : OwnE w B e sz pv cs) (o : Obj) : OwnE (w.alloc o) B e sz pv cs := h.keep fun b hlt _ => Below.heap_alloc w o b hlt
theorem OwnE.drew {w : World} {B : Nat} {e : TypeId} {sz : Nat} {pv : Value} {cs : List (Array Value)} (h : OwnE w B e sz pv cs) : OwnE w.drew B e sz pv cs := h
theorem OwnE.lt {w : World} {B : Nat} {e : TypeId} {sz : Nat} {pv : Value} {cs : List (Array Value)} (h : OwnE w B e sz pv cs) : ∀ b, pv.ownBlock = some b → B ≤ b ∧ b < w.heap.size := fun b hb => World.ownsRow.lt h.2 b hb
theorem flatC_add (cs ds : List (Array Value)) : flatC (cs ++ ds) = flatC cs ++ flatC ds := by simp [flatC]
theorem OwnE.apps {P : Program} {W : World} {B : Nat} {t e : TypeId} {sz bytes : Nat} {pv z : Value} {cs ds : List (Array Value)} (ht : P.underlying t = some (.slice e)) (hinfo : (P.info? e).map (fun i => (i.zero, i.size, i.bytes)) = some (some z, sz, bytes)) (hz : z.cells.size = sz) (hsz : 0 < sz)
 (hown : OwnE W B e sz pv cs) {b o c : Nat} (hd : El W sz (some ⟨b, o, none⟩) ds) (h1 : ∀ d ∈ ds, ∀ u ∈ d.toList, u.oneCell' = true) (hlen : (cs.length + ds.length) * bytes ≤ 140737488355328) (hl : cs.length + ds.length ≤ maxLen) (hB : B ≤ W.heap.size) :
 ∃ v' w', (Builtin.append_ #[t, t] t #[pv, .slice (some ⟨b, o, none⟩) ds.length c]).run P W = .ok v' w' ∧ OwnE w' B e sz v' (cs ++ ds) ∧ Below B W w' ∧
  (∀ k, k < W.heap.size → pv.ownBlock ≠ some k → w'.heap[k]? = W.heap[k]?) ∧ W.heap.size ≤ w'.heap.size ∧ (v'.ownBlock = pv.ownBlock ∨ v'.ownBlock = some W.heap.size) := by
 obtain ⟨i0, hi0, hz0, hz1, hz2⟩ := info_parts hinfo
 have hds : ∀ d ∈ ds, d.size = sz := fun c hc => by obtain ⟨i, hi, rfl⟩ := List.mem_iff_getElem.1 hc; exact hd.size i hi
 obtain ⟨v', w', hrun, h2, h3, -, h5⟩ := run_append_own_at (P := P) W B t t e i0 z sz bytes ht hi0 hz0 hz1 hz2 hz hsz pv cs.length (flatC cs) hown.2
  ⟨b, o, none⟩ ds.length c (flatC ds) (flatC_len hds) (fun j u hu => by have := hd.flat hsz j u hu; rwa [adr_some, ← add_one_cell] at this) (fun u hu => by
   obtain ⟨d, hd, hu⟩ := List.mem_flatMap.1 hu
   exact h1 d hd u hu) hl hlen hB
 have hlt := hown.lt
 refine ⟨v', w', hrun, ⟨fun c hc => ?_, ?_⟩, ?_, ?_, h3.size, h5⟩
 ·rcases List.mem_append.1 hc with h | h
  ·exact hown.1 c h
  ·exact hds c h
 ·rw [List.length_append, flatC_add]; exact h2
 ·exact (Below.refl _ _).grown h3 hB (fun b hb => (hlt b hb).1)
 ·intro k hk hne
  exact h3.block k hk (fun e => hne e.symm)

@[go_sem] theorem run_indexAt_el {P : Program} (w : World) (t : TypeId) (A : Option Addr) (len cap : Nat) (k : IntKind) (i : Int) (hs : Sl A len)
 (h : P.underlying t = some (.slice (P.elem t))) (h1 : (sizeOf (P.elem t)).run P w = .ok 7 w) :
 (Instr.indexAt t (.slice A len cap) (.int k i)).run P w =
  if 0 ≤ i ∧ i < len then .ok (.pointer (some (adr A (i.toNat * 7)))) w else (boundsPanic k i len .index).run P w := by
 rcases A with _ | a
 ·have h0 : len = 0 := by
   rcases Nat.eq_zero_or_pos len with h | h
   ·exact h
   ·obtain ⟨_, _, h⟩ := hs h; cases h
  subst h0
  rw [if_neg (by omega)]
  simp [Instr.indexAt, run_underlying h, asIntOf]
 ·rw [run_indexAt_slice w t a len cap k i h]
  split
  ·rename_i hi
   obtain ⟨b, o, e⟩ := hs (by omega)
   cases e
   rw [h1]
   simp only [Result.andThen_ok, add_one_cell, adr_some]
  ·rfl
theorem adr_add (A : Option Addr) (n j : Nat) : (adr A n).add j = adr A (n + j) := by
 unfold adr; rw [add_one_cell, Nat.add_assoc]

theorem Rests.lt {w : World} {F : Nat → Prop} {φ : World → Prop} (h : Rests w F φ) : Rests w (fun b => F b ∧ b < w.heap.size) φ := ⟨h.now, fun w' hw => h.lift w' fun b hF hb => hw b ⟨hF, hb⟩ hb⟩

section
variable {w : World} {g : Nat} {a b u0 u1 : Value} {t : TypeId}
end
end Go.Proofs.YtplhmeiciiajcaaGreatDoor
