/-
  Plain facts on long division: a guess that is not too small, digits taken off, shifts.
-/
import Derived.Test.YtbdgeinfijamcaaGreatDoorMath
namespace Go.Proofs.YtbdgeinfijamcaaGreatDoor

theorem valT_succ (b : Nat) (l : List Nat) (n : Nat) : valT b l (n + 1) = valT b l n + b ^ n * nth l n := rfl
theorem nthDrop (l : List Nat) (j i : Nat) : nth (l.drop j) i = nth l (j + i) := by simp [nth, List.getD]
theorem quot_le {P U V T t q : Nat} (hV : t * P ≤ V) (hU : U < (T + 1) * P) (hq : q * V ≤ U) : q * t ≤ T := by
  have h1 : q * (t * P) ≤ q * V := Nat.mul_le_mul_left _ hV
  rw [← Nat.mul_assoc] at h1
  have h2 : q * t * P < (T + 1) * P := by omega
  have := Nat.lt_of_mul_lt_mul_right h2
  omega

/-- of the two highest digits -/
theorem top2 {b : Nat} (hb : 0 < b) {l : List Nat} (hl : ∀ x ∈ l, x < b) (n : Nat) : ∃ r, r < b ^ n ∧ valT b l (n + 2) = (nth l (n + 1) * b + nth l n) * b ^ n + r := by
  refine ⟨valT b l n, valT_lt hb hl n, ?_⟩
  rw [valT_succ, valT_succ, Nat.pow_succ]
  generalize valT b l n = r
  generalize b ^ n = p
  grind
theorem top1 {b : Nat} (hb : 0 < b) {l : List Nat} (hl : ∀ x ∈ l, x < b) (n : Nat) : ∃ r, r < b ^ n ∧ valT b l (n + 1) = nth l n * b ^ n + r := by
  refine ⟨valT b l n, valT_lt hb hl n, ?_⟩
  rw [valT_succ, Nat.mul_comm, Nat.add_comm]
theorem top3 {b : Nat} (hb : 0 < b) {l : List Nat} (hl : ∀ x ∈ l, x < b) (n : Nat) : ∃ r, r < b ^ n ∧ valT b l (n + 3) = ((nth l (n + 2) * b + nth l (n + 1)) * b + nth l n) * b ^ n + r := by
  refine ⟨valT b l n, valT_lt hb hl n, ?_⟩
  rw [valT_succ, valT_succ, valT_succ]; simp only [Nat.pow_succ]
  generalize valT b l n = r
  generalize b ^ n = p
  grind

/-- the quotient's digit is not above what the two highest digits say -/
theorem guess_two {b : Nat} (hb : 0 < b) {u v : List Nat} (hu : ∀ x ∈ u, x < b) (hv : ∀ x ∈ v, x < b) (n q : Nat) (hq : q * valT b v (n + 1) ≤ valT b u (n + 2)) : q * nth v n ≤ nth u (n + 1) * b + nth u n := by
  obtain ⟨r, hr, e⟩ := top2 hb hu n
  obtain ⟨r', hr', e'⟩ := top1 hb hv n
  refine quot_le (P := b ^ n) (V := valT b v (n + 1)) (U := valT b u (n + 2)) (by omega) ?_ hq
  rw [e, Nat.add_one_mul]; omega
theorem guess_three {b : Nat} (hb : 0 < b) {u v : List Nat} (hu : ∀ x ∈ u, x < b) (hv : ∀ x ∈ v, x < b) (n q : Nat) (hq : q * valT b v (n + 2) ≤ valT b u (n + 3)) : q * (nth v (n + 1) * b + nth v n) ≤ (nth u (n + 2) * b + nth u (n + 1)) * b + nth u n := by
  obtain ⟨r, hr, e⟩ := top3 hb hu n
  obtain ⟨r', hr', e'⟩ := top2 hb hv n
  refine quot_le (P := b ^ n) (V := valT b v (n + 2)) (U := valT b u (n + 3)) (by omega) ?_ hq
  rw [e, Nat.add_one_mul]; omega
/-- a guess that the third digit shows to be too great -/
theorem guess_down {b q g top next u2 u0 rest : Nat} (h3 : q * (top * b + next) ≤ u2 * b + u0) (hr : u2 = g * top + rest) (hgt : rest * b + u0 < g * next) : q < g := by
  apply Nat.lt_of_mul_lt_mul_right (a := top * b + next)
  have e : g * (top * b + next) = g * top * b + g * next := by rw [Nat.mul_add, Nat.mul_assoc]
  have e2 : u2 * b = g * top * b + rest * b := by rw [hr, Nat.add_mul]
  omega

/-- one digit times something, taken off -/
theorem off_step {b s v times p s' x y hi lo c cy bw bw' lo' r : Nat} (h : s' + times * v = s + p * (cy + bw)) (hm : hi * b + lo = y * times) (hlo : c * b + lo' = lo + cy) (hs : r + (lo' + bw) = x + b * bw') :
    (s' + p * r) + times * (v + p * y) = (s + p * x) + p * b * (hi + c + bw') := by
  have h1 : times * (v + p * y) = times * v + p * (y * times) := by grind
  rw [h1, ← hm]
  have h2 : p * (hi * b + lo) = p * hi * b + p * lo := by grind
  have h3 : p * (c * b + lo') = p * (lo + cy) := by rw [hlo]
  have h4 : p * (r + (lo' + bw)) = p * (x + b * bw') := by rw [hs]
  grind
/-- v has been taken off as often as it goes -/
theorem dig_done {U V r g : Nat} (hV : 0 < V) (hle : U / V ≤ g) (e : r + g * V = U) : g = U / V ∧ r = U % V := by
  have h1 : g ≤ U / V := (Nat.le_div_iff_mul_le hV).2 (by omega)
  have h2 : g = U / V := by omega
  refine ⟨h2, ?_⟩
  have := Nat.div_add_mod U V
  rw [Nat.mul_comm, ← h2] at this
  omega
theorem dig_more {U V r g p : Nat} (hV : 0 < V) (hr : r < p) (e : r + g * V = U + p) : U / V < g := (Nat.div_lt_iff_lt_mul hV).2 (by omega)
theorem dig_back {U V r r' g p cy bw : Nat} (hg : 0 < g) (e : r + g * V = U + p * bw) (e' : r' + p * cy = r + V) (hc : cy ≤ bw) : r' + (g - 1) * V = U + p * (bw - cy) := by
  obtain ⟨k, rfl⟩ : ∃ k, g = k + 1 := ⟨g - 1, by omega⟩
  obtain ⟨d, rfl⟩ := Nat.exists_eq_add_of_le hc
  rw [Nat.add_mul, Nat.one_mul, Nat.mul_add] at e
  rw [Nat.add_sub_cancel, Nat.add_sub_cancel_left]
  omega
theorem two_gt {b g n rest u : Nat} (_hb : 0 < b) (h : rest < g * n / b ∨ g * n / b = rest ∧ u < g * n % b) (hu : u < b) : rest * b + u < g * n := by
  have e := Nat.div_add_mod (g * n) b
  rcases h with h | ⟨h, h'⟩
  · have : (rest + 1) * b ≤ g * n / b * b := Nat.mul_le_mul_right _ h
    rw [Nat.add_one_mul, Nat.mul_comm (g * n / b)] at this
    omega
  · have e2 : rest * b = b * (g * n / b) := by rw [h, Nat.mul_comm]
    omega
end Go.Proofs.YtbdgeinfijamcaaGreatDoor
