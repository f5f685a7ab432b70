/-
  What DigitsBack calls, in its own words.
-/
import Derived.Test.YthffandpjjnkhaaDoorBackM
import Derived.Test.YthffandpjjnkhaaDoorWC
import Derived.Test.YthffandpjjnkhaaDoorAwk
import Derived.Test.YthffandpjjnkhaaDoorLow
namespace Go.Proofs.YthffandpjjnkhaaDoor
open Go.RowKit

theorem Tab.old {w : World} (h : Tab w) : Rests w (· < w.heap.size) Tab := ⟨h, fun _ hw => h.block (hw _ h.lt h.lt)⟩
theorem text_i {W : World} {i : IV} {z : Int} {n : Nat} (h : IntD i z n W) (hn : n ≤ 1000000) (ht : Tab W) :
    Calls Tryd.prog 10 #[.agg #[.bool i.neg, .slice i.A i.k i.c]] W fun e w' => e = .returned (strV (intText (decide (z < 0)) z.natAbs)) ∧ Below W.heap.size W w' := by
  obtain ⟨l, hk, hr, hx, rfl⟩ := h.ex
  have h1 := h.le
  have h2 := text_any W i.neg i.A i.c l (by omega) hr hx ht
  have e : intText i.neg (val B64 l) = intText (decide (iv i.neg (val B64 l) < 0)) (iv i.neg (val B64 l)).natAbs := by
    rw [iv_natAbs]
    unfold intText
    by_cases h0 : val B64 l = 0
    · rw [if_pos h0, if_pos h0]
    · rw [if_neg h0, if_neg h0]
      have : i.neg = decide (iv i.neg (val B64 l) < 0) := by unfold iv; cases i.neg <;> simp <;> omega
      rw [← this]
  rw [← hk, e] at h2
  exact h2
/-- a number read: z in its one form -/
def RetZE (z : Int) (w : World) (e : Ending) (w' : World) : Prop :=
  ∃ i : IV, e = .returned (.tuple #[.agg #[.bool i.neg, .slice i.A i.k i.c], .int .i64 0]) ∧ IntN i z w' ∧ Below w.heap.size w w'
theorem parse_t (W : World) (z : Int) (hz : z.natAbs < 10 ^ 600) : Calls Tryd.prog 8 #[.string ⟨(intText (decide (z < 0)) z.natAbs).toArray⟩] W (RetZE z W) := by
  have hlen : (intText (decide (z < 0)) z.natAbs).length ≤ 602 := by
    have := dec_length hz (by decide)
    unfold intText; split
    · simp
    · split <;> simp <;> omega
  have h1 := parse_any ⟨(intText (decide (z < 0)) z.natAbs).toArray⟩ W (by rw [size_str]; omega)
  have e1 : (⟨(intText (decide (z < 0)) z.natAbs).toArray⟩ : ByteArray).data.toList = intText (decide (z < 0)) z.natAbs := by simp
  rw [e1, parse_text _ _ hz] at h1
  refine h1.mono ?_
  rintro e w' ⟨A, c, rfl, hc, hr, hb⟩
  have e2 : (decide (z < 0) && decide (z.natAbs ≠ 0)) = decide (z < 0) := by by_cases h : z < 0 <;> simp [h] <;> omega
  refine ⟨⟨decide (z < 0), A, (digs B64 z.natAbs).length, c⟩, ?_, ⟨rfl, hc, rfl, hr⟩, hb⟩
  show Ending.returned (.tuple #[.agg #[.bool (decide (z < 0) && decide (z.natAbs ≠ 0)), .slice A (digs B64 z.natAbs).length c], .int .i64 ((0 : Nat) : Int)]) = _
  rw [e2]; rfl
theorem lenK {v k : Nat} (h : v < 10 ^ k) (hk : k ≤ 600) : (digs B64 v).length ≤ 100 := dlen_le (Nat.lt_trans h (ten_pow 100 (by decide) (by omega)))
theorem sameInt_n {W : World} {i j : IV} {z : Int} (h : IntN i z W) (h' : IntN j z W) (hz : z.natAbs < 10 ^ 600) :
    Calls Tryd.prog 16 #[.agg #[.bool i.neg, .slice i.A i.k i.c], .agg #[.bool j.neg, .slice j.A j.k j.c]] W fun e w' => e = .returned (.bool true) ∧ Below W.heap.size W w' := by
  have hl : (digs B64 z.natAbs).length ≤ 100 := lenK hz (Nat.le_refl _)
  have := sameInt_eq W (decide (z < 0)) i.A j.A i.c j.c (digs B64 z.natAbs) (by omega) h.rd h'.rd
  rw [h.k, h'.k, h.neg, h'.neg]
  exact this
theorem short_of {z : Int} (h : z.natAbs < B64 ^ 30) : z.natAbs < 10 ^ 600 := by
  have h1 : B64 ^ 30 ≤ (10 ^ 20) ^ 30 := Nat.pow_le_pow_left (by decide) _
  rw [← Nat.pow_mul, show 20 * 30 = 600 from rfl] at h1
  exact Nat.lt_of_lt_of_le h h1
theorem posK (k : Nat) : 0 < 10 ^ k := Nat.pow_pos (by decide)
theorem pos600 : 0 < 10 ^ 600 := posK 600
theorem powLe {a k : Nat} (h : a ≤ k) : 10 ^ a ≤ 10 ^ k := Nat.pow_le_pow_right (by decide) h
theorem parse_small (s : List UInt8) : (parseN s).2.2 < 10 ^ 600 := by
  unfold parseN
  by_cases h1 : numB (Lib.trimPrefix s [45]) (Lib.hasPrefix s [45]) = false
  · simp only [if_pos h1]; exact pos600
  · simp only [if_neg h1]
    by_cases h2 : 600 < (Lib.trimPrefix s [45]).length
    · simp only [if_pos h2]; exact pos600
    · simp only [if_neg h2]
      have h3 : numB (Lib.trimPrefix s [45]) (Lib.hasPrefix s [45]) = true := by simpa using h1
      unfold numB at h3
      simp only [Bool.and_eq_true, List.all_eq_true] at h3
      have h5 := powLe (Nat.not_lt.1 h2)
      exact Nat.lt_of_lt_of_le (decVal_lt _ h3.1.2) h5
theorem len600 {v : Nat} (h : v < 10 ^ 600) : (digs B64 v).length ≤ 100 := lenK h (Nat.le_refl _)
theorem text_back {s : ByteArray} {rn : Bool} {rv : Nat} (hR : parseN s.data.toList = (0, rn, rv)) (W : World) (A : Option Addr) (c : Nat) (hr : Rd W .u64 A (digs B64 rv)) (ht : Tab W) :
    Calls Tryd.prog 10 #[.agg #[.bool rn, .slice A (digs B64 rv).length c]] W fun e w' => e = .returned (.string s) ∧ Below W.heap.size W w' := by
  have h1 := parse_small s.data.toList
  have h2 := text_parse s.data.toList (by rw [hR])
  rw [hR] at h1 h2
  have h4 : (digs B64 rv).length ≤ 100 := len600 h1
  have h3 := text_any W rn A c (digs B64 rv) (by omega) hr (digs_lt (by decide) _) ht
  rw [val_digs (by decide), h2] at h3
  have e : (⟨s.data.toList.toArray⟩ : ByteArray) = s := by cases s; simp
  rw [show strV s.data.toList = .string s from congrArg Value.string e] at h3
  exact h3
set_option maxRecDepth 100000 in
theorem dig10 (r : Nat) (h : r < 10) (w : World) : (Instr.slice 9 (.string ⟨#[48, 49, 50, 51, 52, 53, 54, 55, 56, 57]⟩) (some (.int .u8 (r : Int))) (some (.int .u8 ((r : Int) + 1))) none).run Tryd.prog w = .ok (.string ⟨#[UInt8.ofNat (48 + r)]⟩) w := by
  have := run_slice_string (P := Tryd.prog) w 9 ⟨#[48, 49, 50, 51, 52, 53, 54, 55, 56, 57]⟩ .u8 .u8 (r : Int) ((r : Int) + 1) Tryd.underlying9 (by omega) (by omega) (by show (r : Int) + 1 ≤ 10; omega)
  rw [this]
  congr 2
  match r, h with
  | 0, _ => rfl
  | 1, _ => rfl
  | 2, _ => rfl
  | 3, _ => rfl
  | 4, _ => rfl
  | 5, _ => rfl
  | 6, _ => rfl
  | 7, _ => rfl
  | 8, _ => rfl
  | 9, _ => rfl
  | n + 10, h => exact absurd h (by omega)
end Go.Proofs.YthffandpjjnkhaaDoor
