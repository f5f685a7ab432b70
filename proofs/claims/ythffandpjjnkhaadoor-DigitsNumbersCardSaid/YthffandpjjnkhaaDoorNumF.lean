/-
  tripwirelaw03.DigitsNumbers: the fixed numerals.
-/
import Derived.Test.YthffandpjjnkhaaDoorAwk
namespace Go.Proofs.YthffandpjjnkhaaDoor
open Go.RowKit

def rp (c : UInt8) (n : Nat) : ByteArray := ⟨(Lib.repeatL [c] n).toArray⟩
def badL : List ByteArray := [⟨#[]⟩, ⟨#[45]⟩, ⟨#[45, 48]⟩, ⟨#[48, 48, 55]⟩, ⟨#[43, 53]⟩, ⟨#[49, 32, 50]⟩, ⟨#[48, 120, 49]⟩, ⟨#[49, 46, 53]⟩, ⟨#[45, 45, 49]⟩, ⟨#[49, 45]⟩, ⟨#[32, 49]⟩, ⟨#[48, 48]⟩, ⟨#[45, 48, 49]⟩, ⟨#[49, 195, 169]⟩]
def goodL : List ByteArray := [⟨#[49]⟩ ++ rp 48 18, ⟨#[49]⟩ ++ rp 48 17, ⟨#[45, 53]⟩ ++ rp 48 36 ++ ⟨#[55]⟩, ⟨#[57]⟩ ++ rp 57 17, ⟨#[48]⟩, ⟨#[45, 49]⟩, ⟨#[49]⟩ ++ rp 48 54]
def badB (s : ByteArray) : Bool := decide (s.size ≤ 700) && decide (parseN s.data.toList = (11, false, 0))
def goodB (s : ByteArray) : Bool := decide (s.size ≤ 700) && decide ((parseN s.data.toList).1 = 0) && decide ((parseN s.data.toList).2.2 < B64 ^ 200) && decide (intText (parseN s.data.toList).2.1 (parseN s.data.toList).2.2 = s.data.toList)
theorem bad_all : badL.all badB = true := by decide +kernel
theorem good_all : goodL.all goodB = true := by decide +kernel
theorem ones_good : goodB (rp 49 600) = true := by decide +kernel
theorem ones_long : (parseN (rp 49 600 ++ ⟨#[49]⟩).data.toList).1 = 3 := by decide +kernel
theorem ones_x : (parseN (⟨#[45]⟩ ++ rp 49 600 ++ ⟨#[120]⟩).data.toList).1 = 11 := by decide +kernel

theorem bad_at {s : ByteArray} (h : s ∈ badL) : s.size ≤ 700 ∧ parseN s.data.toList = (11, false, 0) := by
  have := List.all_eq_true.1 bad_all s h
  simpa [badB] using this
theorem good_of {s : ByteArray} (h : goodB s = true) : s.size ≤ 700 ∧ (parseN s.data.toList).1 = 0 ∧ (parseN s.data.toList).2.2 < B64 ^ 200 ∧ intText (parseN s.data.toList).2.1 (parseN s.data.toList).2.2 = s.data.toList := by
  simp only [goodB, Bool.and_eq_true, decide_eq_true_eq] at h
  exact ⟨h.1.1.1, h.1.1.2, h.1.2, h.2⟩
theorem good_at {s : ByteArray} (h : s ∈ goodL) : goodB s = true := List.all_eq_true.1 good_all s h

/-- a text that is no numeral -/
theorem parse_bad (s : ByteArray) (w : World) (h : s ∈ badL) :
    Calls Tryd.prog 8 #[.string s] w fun e w' => ∃ A c, e = .returned (.tuple #[.agg #[.bool false, .slice A 0 c], .int .i64 11]) ∧ Below w.heap.size w w' :=
  (parse_any s w (by have := (bad_at h).1; omega)).mono (by
    rintro e w' ⟨A, c, rfl, -, -, hb⟩
    rw [(bad_at h).2]
    exact ⟨A, c, rfl, hb⟩)
/-- a text that is refused -/
theorem parse_no (s : ByteArray) (w : World) (n : Nat) (hs : s.size ≤ 700) (h : (parseN s.data.toList).1 = n) :
    Calls Tryd.prog 8 #[.string s] w fun e w' => ∃ neg A m c, e = .returned (.tuple #[.agg #[.bool neg, .slice A m c], .int .i64 (n : Int)]) ∧ Below w.heap.size w w' :=
  (parse_any s w (by omega)).mono (by
    rintro e w' ⟨A, c, rfl, -, -, hb⟩
    rw [h]
    exact ⟨_, A, _, c, rfl, hb⟩)
/-- what a number is told as -/
def TellsAs (w : World) (neg : Bool) (A : Option Addr) (n c : Nat) (s : ByteArray) : Prop :=
  ∀ W, (∀ p : Addr, p.block < w.heap.size → W.cell? p = w.cell? p) → Tab W → Calls Tryd.prog 10 #[.agg #[.bool neg, .slice A n c]] W fun e w' => e = .returned (.string s) ∧ Below W.heap.size W w'
/-- a numeral -/
theorem parse_good (s : ByteArray) (w : World) (h : goodB s = true) :
    Calls Tryd.prog 8 #[.string s] w fun e w' => ∃ neg A n c, e = .returned (.tuple #[.agg #[.bool neg, .slice A n c], .int .i64 0]) ∧ TellsAs w' neg A n c s ∧ Below w.heap.size w w' := by
  obtain ⟨h1, h2, h3, h4⟩ := good_of h
  refine (parse_any s w (by omega)).mono ?_
  rintro e w' ⟨A, c, rfl, -, hr, hb⟩
  rw [h2]
  refine ⟨_, A, _, c, rfl, ?_, hb⟩
  intro W hW hT
  have hl := digs_length_lt h3
  have := text_any W (parseN s.data.toList).2.1 A c (digs B64 (parseN s.data.toList).2.2) (by omega) (hr.keep hW) (digs_lt (by decide) _) hT
  rw [val_digs (by decide), h4] at this
  exact this
theorem rep_any (c : UInt8) (n : Nat) (w : World) (hn : n ≤ 1000) :
    Calls Tryd.prog 9 #[.string ⟨#[c]⟩, .int .i64 (n : Int)] w fun e w' => e = .returned (.string (rp c n)) ∧ Below w.heap.size w w' :=
  Tryd.strings_Repeat ⟨#[c]⟩ n w (by omega) (by simp [ByteArray.size]; omega)

theorem size_ones : (rp 49 600).size = 600 := by decide +kernel
theorem p_ones (w : World) : Calls Tryd.prog 9 #[.string ⟨#[49]⟩, .int .i64 600] w fun e w' => e = .returned (.string (rp 49 600)) ∧ Below w.heap.size w w' := rep_any 49 600 w (by omega)
theorem parse_no3 (s : ByteArray) (w : World) (hs : s.size ≤ 700) (h : (parseN s.data.toList).1 = 3) :
    Calls Tryd.prog 8 #[.string s] w fun e w' => ∃ neg A m c, e = .returned (.tuple #[.agg #[.bool neg, .slice A m c], .int .i64 3]) ∧ Below w.heap.size w w' := parse_no s w 3 hs h
theorem parse_no11 (s : ByteArray) (w : World) (hs : s.size ≤ 700) (h : (parseN s.data.toList).1 = 11) :
    Calls Tryd.prog 8 #[.string s] w fun e w' => ∃ neg A m c, e = .returned (.tuple #[.agg #[.bool neg, .slice A m c], .int .i64 11]) ∧ Below w.heap.size w w' := parse_no s w 11 hs h
theorem size_long : (rp 49 600 ++ ⟨#[49]⟩).size ≤ 700 := by decide +kernel
theorem size_x : (⟨#[45]⟩ ++ rp 49 600 ++ ⟨#[120]⟩).size ≤ 700 := by decide +kernel
/-- what the law asks of the text of six hundred ones -/
structure Ones (S : ByteArray) : Prop where
  size : S.size = 600
  good : goodB S = true
  long : (parseN (S ++ ⟨#[49]⟩).data.toList).1 = 3
  x : (parseN (⟨#[45]⟩ ++ S ++ ⟨#[120]⟩).data.toList).1 = 11
theorem ones_ok : Ones (rp 49 600) := ⟨size_ones, ones_good, ones_long, ones_x⟩
theorem Ones.pl {S : ByteArray} (h : Ones S) (w : World) : Calls Tryd.prog 8 #[.string (S ++ ⟨#[49]⟩)] w fun e w' => ∃ neg A m c, e = .returned (.tuple #[.agg #[.bool neg, .slice A m c], .int .i64 3]) ∧ Below w.heap.size w w' :=
  parse_no3 _ w (by rw [ByteArray.size_append, h.size]; decide) h.long
theorem Ones.px {S : ByteArray} (h : Ones S) (w : World) : Calls Tryd.prog 8 #[.string (⟨#[45]⟩ ++ S ++ ⟨#[120]⟩)] w fun e w' => ∃ neg A m c, e = .returned (.tuple #[.agg #[.bool neg, .slice A m c], .int .i64 11]) ∧ Below w.heap.size w w' :=
  parse_no11 _ w (by rw [ByteArray.size_append, ByteArray.size_append, h.size]; decide) h.x
theorem p_ones2 (w : World) : Calls Tryd.prog 9 #[.string ⟨#[49]⟩, .int .i64 600] w fun e w' => ∃ S, Ones S ∧ e = .returned (.string S) ∧ Below w.heap.size w w' := (p_ones w).mono fun _ _ h => ⟨_, ones_ok, h⟩
theorem p_rep (c : UInt8) (w : World) : (Calls Tryd.prog 9 #[.string ⟨#[c]⟩, .int .i64 17] w fun e w' => e = .returned (.string (rp c 17)) ∧ Below w.heap.size w w') ∧
    (Calls Tryd.prog 9 #[.string ⟨#[c]⟩, .int .i64 18] w fun e w' => e = .returned (.string (rp c 18)) ∧ Below w.heap.size w w') ∧
    (Calls Tryd.prog 9 #[.string ⟨#[c]⟩, .int .i64 36] w fun e w' => e = .returned (.string (rp c 36)) ∧ Below w.heap.size w w') ∧
    (Calls Tryd.prog 9 #[.string ⟨#[c]⟩, .int .i64 54] w fun e w' => e = .returned (.string (rp c 54)) ∧ Below w.heap.size w w') :=
  ⟨rep_any c 17 w (by omega), rep_any c 18 w (by omega), rep_any c 36 w (by omega), rep_any c 54 w (by omega)⟩
theorem size_rp (c : UInt8) : (rp c 17).size = 17 ∧ (rp c 18).size = 18 ∧ (rp c 36).size = 36 ∧ (rp c 54).size = 54 := ⟨rfl, rfl, rfl, rfl⟩
/-- the numerals of the second list -/
def goodL2 (a b c d e : ByteArray) : List ByteArray := [⟨#[49]⟩ ++ a, ⟨#[49]⟩ ++ b, ⟨#[45, 53]⟩ ++ c ++ ⟨#[55]⟩, ⟨#[57]⟩ ++ d, ⟨#[48]⟩, ⟨#[45, 49]⟩, ⟨#[49]⟩ ++ e]
theorem p_r18 (w : World) : Calls Tryd.prog 9 #[.string ⟨#[48]⟩, .int .i64 18] w fun e w' => ∃ S, S = rp 48 18 ∧ S.size = 18 ∧ e = .returned (.string S) ∧ Below w.heap.size w w' := (rep_any 48 18 w (by omega)).mono fun _ _ h => ⟨_, rfl, rfl, h⟩
theorem p_r17 (w : World) : Calls Tryd.prog 9 #[.string ⟨#[48]⟩, .int .i64 17] w fun e w' => ∃ S, S = rp 48 17 ∧ S.size = 17 ∧ e = .returned (.string S) ∧ Below w.heap.size w w' := (rep_any 48 17 w (by omega)).mono fun _ _ h => ⟨_, rfl, rfl, h⟩
theorem p_r36 (w : World) : Calls Tryd.prog 9 #[.string ⟨#[48]⟩, .int .i64 36] w fun e w' => ∃ S, S = rp 48 36 ∧ S.size = 36 ∧ e = .returned (.string S) ∧ Below w.heap.size w w' := (rep_any 48 36 w (by omega)).mono fun _ _ h => ⟨_, rfl, rfl, h⟩
theorem p_n17 (w : World) : Calls Tryd.prog 9 #[.string ⟨#[57]⟩, .int .i64 17] w fun e w' => ∃ S, S = rp 57 17 ∧ S.size = 17 ∧ e = .returned (.string S) ∧ Below w.heap.size w w' := (rep_any 57 17 w (by omega)).mono fun _ _ h => ⟨_, rfl, rfl, h⟩
theorem p_r54 (w : World) : Calls Tryd.prog 9 #[.string ⟨#[48]⟩, .int .i64 54] w fun e w' => ∃ S, S = rp 48 54 ∧ S.size = 54 ∧ e = .returned (.string S) ∧ Below w.heap.size w w' := (rep_any 48 54 w (by omega)).mono fun _ _ h => ⟨_, rfl, rfl, h⟩
end Go.Proofs.YthffandpjjnkhaaDoor
