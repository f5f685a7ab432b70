/-
  A fraction's text, read, is the fraction.
-/
import Derived.Test.YtcinoicpibleoaaGreatDoorQP
namespace Go.Proofs.YtcinoicpibleoaaGreatDoor
open Go.RowKit

theorem index_hit (l r : List UInt8) (c : UInt8) (h : ∀ x ∈ l, x ≠ c) : Lib.indexByte (l ++ c :: r) c = (l.length : Int) := by
  induction l with
  | nil => simp [Lib.indexByte]
  | cons b l ih =>
    have h1 := ih (fun x hx => h x (by simp [hx]))
    have h2 : (b == c) = false := by simpa using h b (by simp)
    simp only [List.cons_append, Lib.indexByte, h1, h2]
    rw [if_neg (by simp), if_neg (by simp <;> omega)]
    simp
theorem index_miss (l : List UInt8) (c : UInt8) (h : ∀ x ∈ l, x ≠ c) : Lib.indexByte l c = -1 := by
  induction l with
  | nil => rfl
  | cons b l ih =>
    have h1 := ih (fun x hx => h x (by simp [hx]))
    have h2 : (b == c) = false := by simpa using h b (by simp)
    simp only [Lib.indexByte, h1, h2]
    simp
theorem text_no (neg : Bool) (v : Nat) : ∀ x ∈ intText neg v, x ≠ 47 := by
  intro x hx
  have hd := (dec_dig v).1
  have key : ∀ y ∈ Lib.decDigits v, y ≠ 47 := fun y hy e => by
    have := hd y hy
    rw [e] at this
    simp [isDig] at this
  unfold intText at hx
  split at hx
  · simp at hx; rw [hx]; decide
  · rcases List.mem_append.1 hx with h | h
    · split at h
      · simp at h; rw [h]; decide
      · simp at h
    · exact key x h
theorem text_pre (v : Nat) : Lib.hasPrefix (intText false v) [45] = false := by
  unfold intText
  split
  · rfl
  · simpa using (cut_dig (dec_dig v).1).1
theorem parseR_of {s tp bt bot : List UInt8} {dv : Bool} {p d : Bool × Nat} (hc : Lib.cut s [47] = (tp, bt, dv)) (hb : bot = if dv = true then bt else [49]) (hp : parseN tp = (0, p)) (hd : parseN bot = (0, d)) (hx : Lib.hasPrefix bot [45] = false) (hne : pz (0, d) ≠ 0) :
    parseR s = (0, Rat.divInt (pz (0, p)) (pz (0, d))) := by
  unfold parseR
  simp only [hc, ← hb, hp, hd, hx]
  rw [if_neg (by simp), if_neg (by simp), if_neg (by simp), if_neg hne]
theorem pz_num (z : Int) : pz (0, (decide (z < 0) && decide (z.natAbs ≠ 0)), z.natAbs) = z := by
  unfold pz
  have e2 : (decide (z < 0) && decide (z.natAbs ≠ 0)) = decide (z < 0) := by by_cases h : z < 0 <;> simp [h] <;> omega
  simp only [e2]
  exact iv_dec _
theorem len_K {n v K : Nat} (h : v < B64 ^ n) (hK : 20 * n ≤ K) : v < 10 ^ K := Nat.lt_of_lt_of_le h (Nat.le_trans (ten_B n) (powLe hK))
theorem parse_ratText {q : Rat} {n : Nat} (hs : Sz q n) (hn : n ≤ 30) : parseR (ratText q) = (0, q) := by
  have h1 := parse_text (decide (q.num < 0)) q.num.natAbs (len_K (K := 600) hs.1 (by omega))
  have hz := pz_num q.num
  unfold ratText
  by_cases hd : q.den = 1
  · rw [if_pos hd, List.append_nil]
    have hi : Lib.index (intText (decide (q.num < 0)) q.num.natAbs) [47] = -1 := by rw [index_one]; exact index_miss _ _ (text_no _ _)
    have hc : Lib.cut (intText (decide (q.num < 0)) q.num.natAbs) [47] = (intText (decide (q.num < 0)) q.num.natAbs, [], false) := by
      unfold Lib.cut; rw [hi, if_neg (by omega)]
    rw [parseR_of hc rfl h1 (show parseN [49] = (0, false, 1) by decide +kernel) (by decide) (by decide), hz, show pz (0, false, 1) = 1 from by decide]
    have e := Rat.num_divInt_den q
    rw [hd] at e
    exact congrArg (Prod.mk 0) e
  · rw [if_neg hd]
    have hi : Lib.index (intText (decide (q.num < 0)) q.num.natAbs ++ 47 :: intText false q.den) [47] = ((intText (decide (q.num < 0)) q.num.natAbs).length : Int) := by rw [index_one]; exact index_hit _ _ _ (text_no _ _)
    have hc : Lib.cut (intText (decide (q.num < 0)) q.num.natAbs ++ 47 :: intText false q.den) [47] = (intText (decide (q.num < 0)) q.num.natAbs, intText false q.den, true) := by
      unfold Lib.cut; rw [hi, if_pos (by omega)]; simp
    have h2 := parse_text false q.den (len_K (K := 600) hs.2 (by omega))
    rw [Bool.false_and] at h2
    have hq : pz (0, false, q.den) = (q.den : Int) := rfl
    have h0 : (q.den : Int) ≠ 0 := by have := q.den_pos; omega
    rw [parseR_of hc rfl h1 h2 (text_pre q.den) (by rw [hq]; exact h0), hz, hq, Rat.num_divInt_den]
end Go.Proofs.YtcinoicpibleoaaGreatDoor
