/-
  Plain facts for math/bits.Div64: one digit of a quotient to the base 2^32, found by a guess that is lowered.
-/
import Derived.Test.YtbdgeinfijamcaaGreatDoorMath
import Derived.Lib.BitFns
import Derived.Laws.BitsAllLaws
namespace Go.Proofs.YtbdgeinfijamcaaGreatDoor

/-- 2^32 -/
def B32 : Nat := 4294967296

/-- the guess q and its rest r: not too low -/
structure QInv (u32 u1 v1 v0 q r : Nat) : Prop where
  eq : q * v1 + r = u32
  le : (u32 * B32 + u1) / (v1 * B32 + v0) ≤ q
  one : u1 < B32
  v0l : v0 < B32
  v1p : 0 < v1
  lt : u32 < v1 * B32 + v0

theorem QInv.start {u32 u1 v1 v0 : Nat} (h1 : u1 < B32) (h2 : v0 < B32) (h3 : 0 < v1) (h4 : u32 < v1 * B32 + v0) : QInv u32 u1 v1 v0 (u32 / v1) (u32 % v1) := by
  refine ⟨by rw [Nat.mul_comm]; exact Nat.div_add_mod u32 v1, ?_, h1, h2, h3, h4⟩
  rw [Nat.le_div_iff_mul_le h3]
  have hv : 0 < v1 * B32 + v0 := by omega
  have h5 := Nat.div_mul_le_self (u32 * B32 + u1) (v1 * B32 + v0)
  generalize (u32 * B32 + u1) / (v1 * B32 + v0) = k at *
  have h6 : k * v1 * B32 ≤ k * (v1 * B32 + v0) := by rw [Nat.mul_assoc]; exact Nat.mul_le_mul_left _ (by omega)
  have h7 : k * v1 * B32 < (u32 + 1) * B32 := by rw [Nat.add_mul, Nat.one_mul]; omega
  have := Nat.lt_of_mul_lt_mul_right h7
  omega
theorem QInv.exact {u32 u1 v1 v0 q r : Nat} (h : QInv u32 u1 v1 v0 q r) (hq : q * v0 ≤ B32 * r + u1) : q = (u32 * B32 + u1) / (v1 * B32 + v0) := by
  apply Nat.le_antisymm _ h.le
  have hv : 0 < v1 * B32 + v0 := by have := h.lt; omega
  rw [Nat.le_div_iff_mul_le hv, ← h.eq]
  have e : q * (v1 * B32 + v0) = q * v1 * B32 + q * v0 := by rw [Nat.mul_add, Nat.mul_assoc]
  rw [e, Nat.add_mul, Nat.mul_comm r]
  omega
/-- a guess that is too high is lowered -/
theorem QInv.next {u32 u1 v1 v0 q r : Nat} (h : QInv u32 u1 v1 v0 q r) (hq : B32 ≤ q ∨ B32 * r + u1 < q * v0) : 1 ≤ q ∧ QInv u32 u1 v1 v0 (q - 1) (r + v1) := by
  have hv : 0 < v1 * B32 + v0 := by have := h.lt; omega
  have hlt : (u32 * B32 + u1) / (v1 * B32 + v0) < q := by
    rw [Nat.div_lt_iff_lt_mul hv]
    rcases hq with hq | hq
    · have h1 : B32 * (v1 * B32 + v0) ≤ q * (v1 * B32 + v0) := Nat.mul_le_mul_right _ hq
      have h2 : (u32 + 1) * B32 ≤ (v1 * B32 + v0) * B32 := Nat.mul_le_mul_right _ h.lt
      have h3 := h.one
      rw [Nat.add_mul, Nat.one_mul] at h2
      rw [Nat.mul_comm B32] at h1
      omega
    · rw [← h.eq]
      have e : q * (v1 * B32 + v0) = q * v1 * B32 + q * v0 := by rw [Nat.mul_add, Nat.mul_assoc]
      rw [e, Nat.add_mul, Nat.mul_comm r]
      omega
  have hq1 : 1 ≤ q := Nat.lt_of_le_of_lt (Nat.zero_le _) hlt
  refine ⟨hq1, ?_, Nat.le_sub_one_of_lt hlt, h.one, h.v0l, h.v1p, h.lt⟩
  clear hlt
  obtain ⟨k, rfl⟩ : ∃ k, q = k + 1 := ⟨q - 1, by omega⟩
  have := h.eq
  rw [Nat.add_mul, Nat.one_mul] at this
  simp only [Nat.add_sub_cancel]
  omega
theorem QInv.small {u32 u1 v1 v0 q r : Nat} (h : QInv u32 u1 v1 v0 q r) (hr : B32 ≤ r) : q < B32 := by
  have h1 := h.eq
  have h2 := h.lt
  have h3 := h.v0l
  rcases Nat.lt_or_ge q B32 with hq | hq
  · exact hq
  · have : B32 * v1 ≤ q * v1 := Nat.mul_le_mul_right _ hq
    rw [Nat.mul_comm] at this
    omega
theorem QInv.broke {u32 u1 v1 v0 q r : Nat} (h : QInv u32 u1 v1 v0 q r) (hr : B32 ≤ r) : q = (u32 * B32 + u1) / (v1 * B32 + v0) := by
  apply h.exact
  have hq := h.small hr
  have h1 : q * v0 ≤ B32 * B32 := Nat.mul_le_mul (Nat.le_of_lt hq) (Nat.le_of_lt h.v0l)
  have h2 : B32 * B32 ≤ B32 * r := Nat.mul_le_mul_left _ hr
  omega
theorem QInv.quot_lt {u32 u1 v1 v0 : Nat} (h1 : u1 < B32) (h4 : u32 < v1 * B32 + v0) : (u32 * B32 + u1) / (v1 * B32 + v0) < B32 := by
  rw [Nat.div_lt_iff_lt_mul (by omega)]
  have h2 : (u32 + 1) * B32 ≤ (v1 * B32 + v0) * B32 := Nat.mul_le_mul_right _ h4
  rw [Nat.add_mul, Nat.one_mul] at h2
  rw [Nat.mul_comm B32]
  omega

/-- two digits of a quotient -/
theorem two_digits {u32 u1 u0 v : Nat} (hv : 0 < v) (_ : u0 < B32) :
    ((u32 * B32 + u1) / v) * B32 + (((u32 * B32 + u1) % v) * B32 + u0) / v = (u32 * (B32 * B32) + (u1 * B32 + u0)) / v ∧
    (((u32 * B32 + u1) % v) * B32 + u0) % v = (u32 * (B32 * B32) + (u1 * B32 + u0)) % v := by
  have e := Nat.div_add_mod (u32 * B32 + u1) v
  generalize (u32 * B32 + u1) / v = q at *
  generalize (u32 * B32 + u1) % v = r at *
  have e2 : u32 * (B32 * B32) + (u1 * B32 + u0) = (r * B32 + u0) + v * (q * B32) := by grind
  rw [e2, Nat.add_mul_div_left _ _ hv, Nat.add_mul_mod_self_left]
  exact ⟨by omega, rfl⟩

theorem bitLen_spec (x : Nat) (h0 : 0 < x) (h : x < 2 ^ 64) : 1 ≤ Lib.bitLen x ∧ Lib.bitLen x ≤ 64 ∧ 2 ^ (Lib.bitLen x - 1) ≤ x ∧ x < 2 ^ Lib.bitLen x := by
  have key : ∀ (f x : Nat), 0 < x → x < 2 ^ f → 1 ≤ Lib.bitLenAux f x ∧ Lib.bitLenAux f x ≤ f ∧ 2 ^ (Lib.bitLenAux f x - 1) ≤ x ∧ x < 2 ^ Lib.bitLenAux f x := by
    intro f
    induction f with
    | zero => intro x h0 h; simp at h; omega
    | succ f ih =>
      intro x h0 h
      simp only [Lib.bitLenAux, if_neg (show ¬ x = 0 by omega)]
      by_cases h1 : x / 2 = 0
      · have e : Lib.bitLenAux f (x / 2) = 0 := by rw [h1]; cases f <;> simp [Lib.bitLenAux]
        rw [e]
        simp
        omega
      · obtain ⟨a, b, c, d⟩ := ih (x / 2) (by omega) (by rw [Nat.pow_succ] at h; omega)
        generalize Lib.bitLenAux f (x / 2) = k at *
        refine ⟨by omega, by omega, ?_, ?_⟩
        · obtain ⟨j, rfl⟩ : ∃ j, k = j + 1 := ⟨k - 1, by omega⟩
          rw [show 1 + (j + 1) - 1 = j + 1 by omega, Nat.pow_succ]
          simp at c
          omega
        · rw [Nat.add_comm, Nat.pow_succ]; omega
  exact key 64 x h0 h

/-- both sides moved up till the divisor's highest bit is set -/
theorem norm_up (hi lo y : Nat) (h1 : hi < y) (h2 : y < 2 ^ 64) (h3 : lo < 2 ^ 64) :
    64 - Lib.bitLen y ≤ 63 ∧ Lib.bitLen y ≤ 64 ∧ y * 2 ^ (64 - Lib.bitLen y) < 2 ^ 64 ∧ 2 ^ 63 ≤ y * 2 ^ (64 - Lib.bitLen y) ∧ hi * 2 ^ (64 - Lib.bitLen y) < 2 ^ 64 ∧ lo / 2 ^ (64 - (64 - Lib.bitLen y)) < 2 ^ 64 ∧
    (hi * 2 ^ (64 - Lib.bitLen y) ||| lo / 2 ^ (64 - (64 - Lib.bitLen y))) = hi * 2 ^ (64 - Lib.bitLen y) + lo / 2 ^ (64 - (64 - Lib.bitLen y)) ∧
    hi * 2 ^ (64 - Lib.bitLen y) + lo / 2 ^ (64 - (64 - Lib.bitLen y)) < y * 2 ^ (64 - Lib.bitLen y) ∧
    (hi * 2 ^ (64 - Lib.bitLen y) + lo / 2 ^ (64 - (64 - Lib.bitLen y))) * 2 ^ 64 + lo * 2 ^ (64 - Lib.bitLen y) % 2 ^ 64 = (hi * 2 ^ 64 + lo) * 2 ^ (64 - Lib.bitLen y) := by
  obtain ⟨b1, b2, b3, b4⟩ := bitLen_spec y (by omega) h2
  generalize Lib.bitLen y = n at *
  obtain ⟨s, hs⟩ : ∃ s, s = 64 - n := ⟨_, rfl⟩
  rw [← hs]
  have hn : n = 64 - s := by omega
  subst hn
  have e64 : (2 : Nat) ^ 64 = 2 ^ (64 - s) * 2 ^ s := by rw [← Nat.pow_add]; congr 1; omega
  have e63 : (2 : Nat) ^ 63 = 2 ^ (64 - s - 1) * 2 ^ s := by rw [← Nat.pow_add]; congr 1; omega
  have p0 : 0 < 2 ^ s := Nat.two_pow_pos s
  have p1 : 0 < 2 ^ (64 - s) := Nat.two_pow_pos _
  have c1 : y * 2 ^ s < 2 ^ 64 := by rw [e64]; exact Nat.mul_lt_mul_of_pos_right b4 p0
  have c2 : 2 ^ 63 ≤ y * 2 ^ s := by rw [e63]; exact Nat.mul_le_mul_right _ b3
  have c3 : lo / 2 ^ (64 - s) < 2 ^ s := by rw [Nat.div_lt_iff_lt_mul p1, Nat.mul_comm, ← e64]; exact h3
  have c4 : (hi + 1) * 2 ^ s ≤ y * 2 ^ s := Nat.mul_le_mul_right _ h1
  rw [Nat.add_mul, Nat.one_mul] at c4
  have c5 : lo * 2 ^ s / 2 ^ 64 = lo / 2 ^ (64 - s) := by rw [e64, Nat.mul_div_mul_right _ _ p0]
  have c6 := Nat.div_add_mod (lo * 2 ^ s) (2 ^ 64)
  rw [c5] at c6
  refine ⟨by omega, by omega, c1, c2, by omega, by have := Nat.pow_le_pow_right (show 0 < 2 by omega) (show s ≤ 64 by omega); omega, ?_, by omega, ?_⟩
  · rw [Nat.mul_comm hi, ← Nat.two_pow_add_eq_or_of_lt c3]
  · rw [Nat.add_mul, Nat.add_mul, Nat.mul_right_comm]
    omega

/-- what is divided, and by what, both moved up -/
theorem div_up {x y k : Nat} (hk : 0 < k) : (x * k) / (y * k) = x / y ∧ (x * k) % (y * k) / k = x % y := by
  refine ⟨Nat.mul_div_mul_right _ _ hk, ?_⟩
  rw [Nat.mul_mod_mul_right, Nat.mul_div_cancel _ hk]

end Go.Proofs.YtbdgeinfijamcaaGreatDoor
