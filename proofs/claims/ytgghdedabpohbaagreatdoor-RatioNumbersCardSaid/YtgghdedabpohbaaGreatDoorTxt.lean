/-
  Plain facts on decimal texts.
-/
import Derived.Test.YtgghdedabpohbaaGreatDoorMath
import Derived.Lib.ItoaNum
namespace Go.Proofs.YtgghdedabpohbaaGreatDoor

/-- the last k decimal digits of r, noughts ahead -/
def fw : Nat → Nat → List UInt8
  | 0, _ => []
  | k + 1, r => fw k (r / 10) ++ [UInt8.ofNat (48 + r % 10)]
theorem dec_big {u : Nat} (h : ¬ u < 10) : Lib.decDigits u = Lib.decDigits (u / 10) ++ [UInt8.ofNat (48 + u % 10)] := by
  rw [Lib.decDigits, dif_neg h]
/-- a number's text behind a greater part's text -/
theorem dec_fw : ∀ (k q r : Nat), 0 < q → r < 10 ^ k → Lib.decDigits (q * 10 ^ k + r) = Lib.decDigits q ++ fw k r := by
  intro k
  induction k with
  | zero => intro q r _ h; simp at h; subst h; simp [fw]
  | succ k ih =>
    intro q r hq hr
    have hp : 1 ≤ 10 ^ k := Nat.one_le_pow _ _ (by decide)
    rw [Nat.pow_succ] at hr ⊢
    have h1 : 1 * (10 ^ k * 10) ≤ q * (10 ^ k * 10) := Nat.mul_le_mul_right _ hq
    rw [dec_big (by omega)]
    have e : (q * (10 ^ k * 10) + r) / 10 = q * 10 ^ k + r / 10 := by rw [← Nat.mul_assoc]; omega
    have e2 : (q * (10 ^ k * 10) + r) % 10 = r % 10 := by rw [← Nat.mul_assoc]; omega
    rw [e, e2, ih q (r / 10) hq (by omega), fw, List.append_assoc]
theorem fw_zero : ∀ k, fw k 0 = List.replicate k 48 := by
  intro k
  induction k with
  | zero => rfl
  | succ k ih => rw [fw, Nat.zero_div, ih, List.replicate_succ']; rfl
/-- the same with noughts laid ahead -/
theorem fw_pad : ∀ (k r : Nat), 0 < k → r < 10 ^ k → fw k r = List.replicate (k - (Lib.decDigits r).length) 48 ++ Lib.decDigits r := by
  intro k
  induction k with
  | zero => intro r h; omega
  | succ k ih =>
    intro r _ hr
    by_cases h : r < 10
    · rw [fw, Nat.div_eq_of_lt h, fw_zero, Lib.decDigits_one h, Nat.mod_eq_of_lt h]; simp
    · rw [Nat.pow_succ] at hr
      have hk : 0 < k := by
        rcases Nat.eq_zero_or_pos k with e | e
        · subst e; simp at hr; omega
        · exact e
      rw [fw, ih (r / 10) hk (by omega), dec_big h, List.append_assoc]
      simp

/-- 10^19: a chunk -/
def C19 : Nat := 10000000000000000000
theorem C19_eq : C19 = 10 ^ 19 := by decide

/-- the text of the chunks from place k on -/
theorem dec_chunk {q r : Nat} (hq : 0 < q) (hr : r < C19) : Lib.decDigits (r + C19 * q) = Lib.decDigits q ++ (List.replicate (19 - (Lib.decDigits r).length) 48 ++ Lib.decDigits r) := by
  rw [C19_eq] at *
  rw [← fw_pad 19 r (by omega) hr, ← dec_fw 19 q r hq hr, Nat.add_comm, Nat.mul_comm]
theorem dec_len_chunk {u : Nat} (h : u < C19) : (Lib.decDigits u).length ≤ 19 := by
  rcases Nat.lt_or_ge 19 (Lib.decDigits u).length with h1 | h1
  · exfalso
    rw [Lib.decDigits_length] at h1
    have key : ∀ k v, k < Lib.nDigits v → 10 ^ k ≤ v ∨ k = 0 := by
      intro k
      induction k with
      | zero => intro v _; exact .inr rfl
      | succ k ih =>
        intro v hv
        by_cases hs : v < 10
        · rw [Lib.nDigits_small hs] at hv; omega
        · rw [Lib.nDigits_big hs] at hv
          left
          rw [Nat.pow_succ]
          rcases ih (v / 10) (by omega) with h2 | h2
          · omega
          · subst h2; simp; omega
    rcases key 19 u h1 with h2 | h2
    · rw [← C19_eq] at h2; omega
    · omega
  · exact h1

/-- a whole number's text: its sign and its size -/
def intText (neg : Bool) (v : Nat) : List UInt8 := if v = 0 then [48] else (if neg then [45] else []) ++ Lib.decDigits v

/-- in the middle of cutting a number into chunks -/
structure CutInv (V v : Nat) (ps : List Nat) : Prop where
  eq : val C19 ps + C19 ^ ps.length * v = V
  lt : ∀ x ∈ ps, x < C19
  tidy : v = 0 → Tidy ps
theorem CutInv.next {V v : Nat} {ps : List Nat} (h : CutInv V v ps) (hv : 0 < v) : CutInv V (v / C19) (ps ++ [v % C19]) := by
  refine ⟨?_, ?_, ?_⟩
  · rw [val_append, ← h.eq]
    have e := Nat.div_add_mod v C19
    simp only [val, List.length_append, List.length_singleton, Nat.pow_succ, Nat.mul_zero, Nat.add_zero]
    generalize v / C19 = q at *
    generalize v % C19 = r at *
    generalize C19 ^ ps.length = p at *
    generalize val C19 ps = t at *
    clear h hv
    generalize C19 = b at *
    grind
  · intro x hx
    rcases List.mem_append.1 hx with hx | hx
    · exact h.lt x hx
    · simp at hx; rw [hx]; exact Nat.mod_lt _ (by decide)
  · intro h0
    right
    refine ⟨v % C19, by simp, ?_⟩
    have e := Nat.div_add_mod v C19
    rw [h0] at e
    omega

end Go.Proofs.YtgghdedabpohbaaGreatDoor
