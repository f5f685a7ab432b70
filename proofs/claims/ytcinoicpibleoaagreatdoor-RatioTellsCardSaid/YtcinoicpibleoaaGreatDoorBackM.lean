/-
  Plain facts: a number's text is read as that number; a numeral is the text of what it says; a digit more.
-/
import Derived.Test.YtcinoicpibleoaaGreatDoorParB
namespace Go.Proofs.YtcinoicpibleoaaGreatDoor

theorem dec_length {v k : Nat} (h : v < 10 ^ k) (hk : 0 < k) : (Lib.decDigits v).length ≤ k := by
  induction k generalizing v with
  | zero => omega
  | succ k ih =>
    by_cases h10 : v < 10
    · rw [Lib.decDigits_one h10]; simp
    · rw [dec_big h10]
      rcases Nat.eq_zero_or_pos k with rfl | hk'
      · simp at h; omega
      · have := ih (v := v / 10) (by rw [Nat.pow_succ] at h; omega) hk'
        simp; omega
/-- digits that do not begin with a nought are the text of what they say -/
theorem dec_of : ∀ (l : List UInt8), (∀ c ∈ l, isDig c = true) → l ≠ [] → (l.headD 0 ≠ 48 ∨ l.length = 1) → Lib.decDigits (decVal l) = l := by
  intro l
  generalize hn : l.length = n
  induction n generalizing l with
  | zero => intro _ h _; exact absurd (List.eq_nil_of_length_eq_zero hn) h
  | succ n ih =>
    intro hd hne hh
    obtain ⟨a, c, rfl⟩ : ∃ a c, l = a ++ [c] := ⟨l.dropLast, l.getLast hne, (List.dropLast_concat_getLast hne).symm⟩
    have hc : 48 ≤ c.toNat ∧ c.toNat ≤ 57 := by simpa [isDig] using hd c (by simp)
    have hcc : UInt8.ofNat (48 + (c.toNat - 48)) = c := by rw [show 48 + (c.toNat - 48) = c.toNat by omega]; simp
    rw [decVal_snoc]
    by_cases ha : a = []
    · subst ha
      have e0 : decVal ([] : List UInt8) = 0 := rfl
      rw [e0, Nat.mul_zero, Nat.zero_add, Lib.decDigits_one (by omega), hcc]; rfl
    · have hal : a.length = n := by simpa using hn
      have hh' : a.headD 0 ≠ 48 := by
        rcases hh with h | h
        · cases a with
          | nil => exact absurd rfl ha
          | cons x xs => simpa using h
        · have : a.length ≠ 0 := fun e => ha (List.eq_nil_of_length_eq_zero e); omega
      have hi := ih a hal (fun x hx => hd x (by simp [hx])) ha (.inl hh')
      have hpos : 0 < decVal a := by
        rcases Nat.eq_zero_or_pos (decVal a) with h0 | h0
        · rw [h0, Lib.decDigits_one (by omega)] at hi
          rw [← hi] at hh'
          exact absurd rfl hh'
        · exact h0
      rw [dec_big (by omega), show (10 * decVal a + (c.toNat - 48)) / 10 = decVal a by omega, hi, show (10 * decVal a + (c.toNat - 48)) % 10 = c.toNat - 48 by omega, hcc]
theorem cut_neg (t : List UInt8) : Lib.hasPrefix (45 :: t) [45] = true ∧ Lib.trimPrefix (45 :: t) [45] = t := by
  constructor <;> simp [Lib.trimPrefix, Lib.hasPrefix]
end Go.Proofs.YtcinoicpibleoaaGreatDoor
