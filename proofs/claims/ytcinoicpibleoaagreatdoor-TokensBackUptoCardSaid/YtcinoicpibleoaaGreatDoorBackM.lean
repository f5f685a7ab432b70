/-
  Plain facts: a number's text is read as that number; a numeral is the text of what it says; a digit more.
-/
import Derived.Test.YtcinoicpibleoaaGreatDoorParB
namespace Go.Proofs.YtcinoicpibleoaaGreatDoor

theorem dec_dig (v : Nat) : (∀ c ∈ Lib.decDigits v, isDig c = true) ∧ decVal (Lib.decDigits v) = v ∧ Lib.decDigits v ≠ [] ∧ (0 < v → (Lib.decDigits v).headD 0 ≠ 48) := by
  induction v using Nat.strongRecOn with
  | ind v ih =>
    by_cases h : v < 10
    · rw [Lib.decDigits_one h]
      have e : (UInt8.ofNat (48 + v)).toNat = 48 + v := by simp; omega
      refine ⟨fun c hc => ?_, ?_, by simp, fun h0 => ?_⟩
      · rw [List.mem_singleton.1 hc]; simp only [isDig, e]; simp; omega
      · simp only [decVal, List.foldl, e]; omega
      · simp only [List.headD]; intro e2; have := congrArg UInt8.toNat e2; rw [e] at this; simp at this; omega
    · obtain ⟨h1, h2, h3, h4⟩ := ih (v / 10) (by omega)
      have e : (UInt8.ofNat (48 + v % 10)).toNat = 48 + v % 10 := by simp; omega
      rw [dec_big h]
      refine ⟨fun c hc => ?_, ?_, by simp, fun _ => ?_⟩
      · rcases List.mem_append.1 hc with hc | hc
        · exact h1 c hc
        · rw [List.mem_singleton.1 hc]; simp only [isDig, e]; simp; omega
      · rw [decVal_snoc, h2, e]; omega
      · have h5 := h4 (by omega)
        cases hd : Lib.decDigits (v / 10) with
        | nil => exact absurd hd h3
        | cons a b => rw [hd] at h5; simpa using h5
theorem dec_length {v k : Nat} (h : v < 10 ^ k) (hk : 0 < k) : (Lib.decDigits v).length ≤ k := by
  induction k generalizing v with
  | zero => omega
  | succ k ih =>
    by_cases h10 : v < 10
    · rw [Lib.decDigits_one h10]; simp
    · rw [dec_big h10]
      rcases Nat.eq_zero_or_pos k with rfl | hk'
      · simp at h; omega
      · have := ih (v := v / 10) (by rw [Nat.pow_succ] at h; omega) hk'
        simp; omega
theorem cut_neg (t : List UInt8) : Lib.hasPrefix (45 :: t) [45] = true ∧ Lib.trimPrefix (45 :: t) [45] = t := by
  constructor <;> simp [Lib.trimPrefix, Lib.hasPrefix]
theorem cut_dig {t : List UInt8} (h : ∀ c ∈ t, isDig c = true) : Lib.hasPrefix t [45] = false ∧ Lib.trimPrefix t [45] = t := by
  have h1 : Lib.hasPrefix t [45] = false := by
    cases t with
    | nil => rfl
    | cons a b =>
      have ha : 48 ≤ a.toNat := by have := h a (by simp); simp [isDig] at this; exact this.1
      have hne : a ≠ 45 := fun e => by rw [e] at ha; simp at ha
      have hq : ((45 : UInt8) == a) = false := by simpa using Ne.symm hne
      simp [Lib.hasPrefix, List.isPrefixOf, hq]
  exact ⟨h1, by unfold Lib.trimPrefix; rw [h1]; rfl⟩
theorem numB_dec (v : Nat) (neg : Bool) (h : v = 0 → neg = false) : numB (Lib.decDigits v) neg = true := by
  obtain ⟨h1, -, h3, h4⟩ := dec_dig v
  unfold numB
  have e1 : (Lib.decDigits v).isEmpty = false := by rw [List.isEmpty_eq_false_iff]; exact h3
  have e2 : (Lib.decDigits v).all isDig = true := List.all_eq_true.2 h1
  rw [e1, e2]
  rcases Nat.eq_zero_or_pos v with rfl | hv
  · rw [h rfl, Lib.decDigits_one (by omega)]; rfl
  · have := h4 hv
    rw [List.headD_eq_head?_getD] at this
    simp [this]
/-- a number's text is read as the number -/
theorem parse_text (neg : Bool) (v : Nat) (hv : v < 10 ^ 600) : parseN (intText neg v) = (0, (neg && decide (v ≠ 0)), v) := by
  have hl : ¬ 600 < (Lib.decDigits v).length := by have := dec_length hv (by decide); omega
  obtain ⟨h1, h2, -, -⟩ := dec_dig v
  unfold intText
  by_cases h0 : v = 0
  · subst h0; rw [if_pos rfl]; simp [parseN]; decide
  · rw [if_neg h0]
    cases neg
    · have ⟨c1, c2⟩ := cut_dig h1
      simp only [Bool.false_eq_true, if_false, List.nil_append, parseN, c1, c2]
      rw [numB_dec v false (fun _ => rfl), if_neg (by simp), if_neg hl, h2]; simp
    · have ⟨c1, c2⟩ := cut_neg (Lib.decDigits v)
      simp only [if_true, List.singleton_append, parseN, c1, c2]
      rw [numB_dec v true (fun h => absurd h h0), if_neg (by simp), if_neg hl, h2]; simp [h0]
end Go.Proofs.YtcinoicpibleoaaGreatDoor
