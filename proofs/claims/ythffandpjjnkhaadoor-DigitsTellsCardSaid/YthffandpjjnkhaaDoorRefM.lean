/-
  Plain facts on digits of 8 bits.
-/
import Derived.Test.YthffandpjjnkhaaDoorMath
namespace Go.Proofs.YthffandpjjnkhaaDoor

/-- the k lowest digits of 8 bits -/
def by8 : Nat → Nat → List Nat
  | 0, _ => []
  | k + 1, x => x % 256 :: by8 k (x / 256)
theorem by8_length (k x : Nat) : (by8 k x).length = k := by
  induction k generalizing x with
  | zero => rfl
  | succ k ih => simp [by8, ih]
theorem by8_lt (k x : Nat) : ∀ y ∈ by8 k x, y < 256 := by
  induction k generalizing x with
  | zero => intro y hy; simp [by8] at hy
  | succ k ih =>
    intro y hy
    rcases List.mem_cons.1 hy with rfl | hy
    · exact Nat.mod_lt _ (by decide)
    · exact ih _ y hy
theorem by8_snoc (k x : Nat) : by8 (k + 1) x = by8 k x ++ [x / 256 ^ k % 256] := by
  induction k generalizing x with
  | zero => simp [by8]
  | succ k ih =>
    rw [by8, ih (x / 256), by8, List.cons_append, Nat.div_div_eq_div_mul, Nat.pow_succ, Nat.mul_comm 256]
theorem val_by8 (k x : Nat) : val 256 (by8 k x) = x % 256 ^ k := by
  induction k generalizing x with
  | zero => simp [by8, val, Nat.mod_one]
  | succ k ih => rw [by8, val, ih, Nat.pow_succ, Nat.mul_comm _ 256, Nat.mod_mul]
/-- all words' digits of 8 bits, eight a word -/
def bytesOf : List Nat → List Nat
  | [] => []
  | x :: xs => by8 8 x ++ bytesOf xs
theorem bytesOf_snoc (l : List Nat) (x : Nat) : bytesOf (l ++ [x]) = bytesOf l ++ by8 8 x := by
  induction l with
  | nil => simp [bytesOf]
  | cons a l ih => simp [bytesOf, ih]
theorem bytesOf_length (l : List Nat) : (bytesOf l).length = 8 * l.length := by
  induction l with
  | nil => rfl
  | cons a l ih => simp [bytesOf, by8_length, ih]; omega
theorem bytesOf_lt (l : List Nat) : ∀ y ∈ bytesOf l, y < 256 := by
  induction l with
  | nil => intro y hy; simp [bytesOf] at hy
  | cons a l ih =>
    intro y hy
    rcases List.mem_append.1 hy with hy | hy
    · exact by8_lt _ _ y hy
    · exact ih y hy
theorem pow256 : 256 ^ 8 = B64 := by decide
theorem val_bytesOf {l : List Nat} (h : ∀ x ∈ l, x < B64) : val 256 (bytesOf l) = val B64 l := by
  induction l with
  | nil => rfl
  | cons a l ih =>
    rw [bytesOf, val_append, by8_length, pow256, val_by8, pow256, Nat.mod_eq_of_lt (h a (List.mem_cons_self ..)), ih (fun x hx => h x (List.mem_cons_of_mem _ hx)), val]
theorem trim_bytesOf {l : List Nat} (h : ∀ x ∈ l, x < B64) : trim (bytesOf l) = digs 256 (val B64 l) := by
  rw [trim_eq (b := 256) (by decide) (bytesOf_lt l), val_bytesOf h]

/-- the words of digits of 8 bits -/
def wordAt (s : List Nat) (i : Nat) : Nat := valT 256 (s.drop i) 8
/-- the number that the first k digits say, from the top down -/
theorem valT_shift (b : Nat) (s : List Nat) (i : Nat) : ∀ k, valT b (s.drop i) k = valT b (s.drop i) k := fun _ => rfl
def wordsOf (s : List Nat) : Nat → List Nat
  | 0 => []
  | n + 1 => wordsOf s n ++ [wordAt s (8 * n)]
theorem wordsOf_length (s : List Nat) (n : Nat) : (wordsOf s n).length = n := by
  induction n with
  | zero => rfl
  | succ n ih => simp [wordsOf, ih]
theorem nth_drop (s : List Nat) (i j : Nat) : nth (s.drop i) j = nth s (i + j) := by simp [nth, List.getD]
theorem valT_add (b : Nat) (s : List Nat) (i : Nat) : ∀ k, valT b s (i + k) = valT b s i + b ^ i * valT b (s.drop i) k := by
  intro k
  induction k with
  | zero => simp [valT]
  | succ k ih => rw [← Nat.add_assoc, valT, ih, valT, nth_drop, Nat.pow_add, Nat.mul_add, Nat.mul_assoc, Nat.add_assoc]
theorem wordAt_lt {s : List Nat} (h : ∀ x ∈ s, x < 256) (i : Nat) : wordAt s i < B64 := by
  have := valT_lt (b := 256) (by decide) (l := s.drop i) (fun x hx => h x (List.mem_of_mem_drop hx)) 8
  rw [pow256] at this
  exact this
theorem wordsOf_lt {s : List Nat} (h : ∀ x ∈ s, x < 256) (n : Nat) : ∀ x ∈ wordsOf s n, x < B64 := by
  induction n with
  | zero => intro x hx; simp [wordsOf] at hx
  | succ n ih =>
    intro x hx
    rcases List.mem_append.1 hx with hx | hx
    · exact ih x hx
    · simp at hx; rw [hx]; exact wordAt_lt h _
theorem val_wordsOf (s : List Nat) : ∀ n, val B64 (wordsOf s n) = valT 256 s (8 * n) := by
  intro n
  induction n with
  | zero => rfl
  | succ n ih => rw [wordsOf, val_append, ih, wordsOf_length, show 8 * (n + 1) = 8 * n + 8 by omega, valT_add, ← pow256, ← Nat.pow_mul]; simp [val, wordAt]
theorem wordsOf_digs {s : List Nat} (h : ∀ x ∈ s, x < 256) (ht : Tidy s) {n : Nat} (h1 : s.length ≤ 8 * n) (h2 : 8 * n < s.length + 8) : wordsOf s n = digs B64 (val 256 s) := by
  have hv : val B64 (wordsOf s n) = val 256 s := by
    rw [val_wordsOf]
    exact valT_used _ _ _ (by have := used_le s; omega)
  rw [← hv]
  apply tidy_digs (by decide) (wordsOf_lt h n)
  rcases n with _ | n
  · left; rfl
  · right
    refine ⟨wordAt s (8 * n), by simp [wordsOf], ?_⟩
    intro e
    have hs : s ≠ [] := by intro e; rw [e] at h2; simp at h2; omega
    have hlast : 0 < val 256 (s.drop (8 * n)) := by
      have htd : Tidy (s.drop (8 * n)) := by
        rcases ht with h | ⟨x, hx, h0⟩
        · exact absurd h hs
        · right
          exact ⟨x, by rw [List.getLast?_drop, if_neg (by omega)]; exact hx, h0⟩
      exact htd.pos (by decide) (by intro e; have := congrArg List.length e; simp at this; omega)
    have hw : wordAt s (8 * n) = val 256 (s.drop (8 * n)) := valT_used _ _ _ (by have := used_le (s.drop (8 * n)); simp at this; omega)
    omega

end Go.Proofs.YthffandpjjnkhaaDoor
