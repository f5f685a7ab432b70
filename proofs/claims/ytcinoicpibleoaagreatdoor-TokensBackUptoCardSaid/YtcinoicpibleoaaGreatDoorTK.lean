/-
  Tokens of a text, in plain Lean: over any reader of numbers; two texts one behind the other; tokens that are written. tokens.letter, digit, end by each of its closures, skip. tokens.token.
-/
import Derived.Test.YtcinoicpibleoaaGreatDoorMath
import Derived.Test.YtcinoicpibleoaaGreatDoorVal
import Derived.Deep.DeepMust
import Derived.Deep.DeepCutAuto
import Derived.Test.YtcinoicpibleoaaGreatDoorQP
namespace Go.Proofs.YtcinoicpibleoaaGreatDoor
/-- a token: its kind, its text, its number, its line -/
structure Tk where
  kind : Nat
  s : List UInt8
  x : Rat
  line : Nat
def isLet (b : UInt8) : Bool := decide (97 ≤ b) && decide (b ≤ 122)
def isPart (b : UInt8) : Bool := decide (48 ≤ b) && decide (b ≤ 57) || b == 45 || b == 47
def isSign (b : UInt8) : Bool := b == 123 || b == 125 || b == 91 || b == 93 || b == 58 || b == 44
def isBlank (b : UInt8) : Bool := b == 32 || b == 9 || b == 13
/-- blanks, lines, remarks are passed over -/
def skipG : Bool → List UInt8 → Nat → List UInt8 × Nat
  | _, [], n => ([], n)
  | r, b :: t, n => if b = 10 then skipG false t (n + 1) else if r || isBlank b || b == 35 then skipG (r || b == 35) t n else (b :: t, n)
/-- one token: its fault (0: none), itself, what is left -/
def tok1 (P : List UInt8 → Nat × Rat) (b : UInt8) (t : List UInt8) (n : Nat) : Nat × Tk × List UInt8 :=
  if isLet b then (0, ⟨2, b :: t.takeWhile isLet, 0, n⟩, t.dropWhile isLet)
  else if isPart b && b != 47 then
    ((if (P (b :: t.takeWhile isPart)).1 = 11 then 20 else (P (b :: t.takeWhile isPart)).1), ⟨3, [], (P (b :: t.takeWhile isPart)).2, n⟩, t.dropWhile isPart)
  else if isSign b then (0, ⟨4, [b], 0, n⟩, t)
  else (20, ⟨0, [], 0, n⟩, t)
def cons1 (k : Tk) (r : Nat × Nat × List Tk) : Nat × Nat × List Tk := if r.1 = 0 then (0, 0, k :: r.2.2) else r
/-- all tokens: the fault, its line, the tokens -/
def toks (P : List UInt8 → Nat × Rat) : Nat → List UInt8 → Nat → Nat × Nat × List Tk
  | 0, _, _ => (0, 0, [])
  | f + 1, l, n =>
    match skipG false l n with
    | ([], m) => (0, 0, [⟨1, [], 0, m⟩])
    | (b :: t, m) => if (tok1 P b t m).1 = 0 then cons1 (tok1 P b t m).2.1 (toks P f (tok1 P b t m).2.2 m) else ((tok1 P b t m).1, m, [])
def tokens (P : List UInt8 → Nat × Rat) (l : List UInt8) : Nat × Nat × List Tk := if 262144 < l.length then (3, 0, []) else toks P (l.length + 1) l 1

variable {P : List UInt8 → Nat × Rat}
theorem skip_len (r : Bool) (l : List UInt8) (n : Nat) : (skipG r l n).1.length ≤ l.length := by
  induction l generalizing r n with
  | nil => simp [skipG]
  | cons b t ih =>
    unfold skipG
    split
    · exact Nat.le_succ_of_le (ih _ _)
    · split
      · exact Nat.le_succ_of_le (ih _ _)
      · simp
theorem drop_len (p : UInt8 → Bool) (l : List UInt8) : (l.dropWhile p).length ≤ l.length := (List.dropWhile_sublist p).length_le
theorem tok1_len (b : UInt8) (t : List UInt8) (n : Nat) : (tok1 P b t n).2.2.length ≤ t.length := by
  unfold tok1
  split
  · exact drop_len _ _
  · split
    · exact drop_len _ _
    · split <;> simp
/-- more fuel changes nothing -/
theorem toks_fuel (f g : Nat) (l : List UInt8) (n : Nat) (hf : l.length < f) (hg : l.length < g) : toks P f l n = toks P g l n := by
  induction f generalizing g l n with
  | zero => omega
  | succ f ih =>
    match g, hg with
    | g + 1, hg =>
      simp only [toks]
      have h1 := skip_len false l n
      split
      · rfl
      · rename_i b t m e
        rw [e] at h1
        have h2 := tok1_len (P := P) b t m
        simp only [List.length_cons] at h1
        rw [ih g _ m (by omega) (by omega)]
def upT (k : Nat) (t : Tk) : Tk := { t with line := t.line + k }
theorem tok1_line (b : UInt8) (t : List UInt8) (n k : Nat) : tok1 P b t (n + k) = ((tok1 P b t n).1, upT k (tok1 P b t n).2.1, (tok1 P b t n).2.2) := by
  unfold tok1
  split
  · rfl
  · split
    · rfl
    · split <;> rfl
/-- a byte that ends words and numbers -/
def stops (c : UInt8) : Bool := !isLet c && !isPart c
theorem take_stop (p : UInt8 → Bool) (l r : List UInt8) (c : UInt8) (h : p c = false) : (l ++ c :: r).takeWhile p = l.takeWhile p ∧ (l ++ c :: r).dropWhile p = l.dropWhile p ++ c :: r := by
  induction l with
  | nil => simp [h]
  | cons b t ih =>
    by_cases hb : p b = true
    · simp [hb, ih]
    · simp [hb]
/-- the line at which a text ends -/
theorem skip_end (r : Bool) (l : List UInt8) (n : Nat) : (skipG r l n).2 + (skipG r l n).1.count 10 = n + l.count 10 := by
  induction l generalizing r n with
  | nil => simp [skipG]
  | cons b t ih =>
    unfold skipG
    split
    · rename_i h; rw [ih, h]; simp; omega
    · rename_i h
      split
      · rw [ih, List.count_cons_of_ne h]
      · rfl
/-- both texts' tokens -/
def glue (a : List Tk) (r : Nat × Nat × List Tk) : Nat × Nat × List Tk := if r.1 = 0 then (0, 0, a ++ r.2.2) else r
theorem cons1_fault (k : Tk) (r : Nat × Nat × List Tk) : (cons1 k r).1 = r.1 := by unfold cons1; split <;> simp_all
theorem toks_zero (f : Nat) (l : List UInt8) (n : Nat) (h : (toks P f l n).1 = 0) : (toks P f l n).2.1 = 0 := by
  cases f with
  | zero => rfl
  | succ f =>
    simp only [toks] at h ⊢
    generalize skipG false l n = s at *
    obtain ⟨s1, m⟩ := s
    match s1, h with
    | [], h => rfl
    | b :: t, h =>
      simp only at h ⊢
      by_cases h0 : (tok1 P b t m).1 = 0
      · simp only [h0, if_pos, cons1_fault] at h ⊢
        unfold cons1
        rw [if_pos h]
      · simp only [if_neg h0] at h; exact absurd h h0
/-- what may follow a word or a number -/
def Rest (r : List UInt8) : Prop := r = [] ∨ ∃ c u, r = c :: u ∧ stops c = true
theorem take_all (p : UInt8 → Bool) (l r : List UInt8) (h : l.all p = true) (hr : r = [] ∨ ∃ c u, r = c :: u ∧ p c = false) : (l ++ r).takeWhile p = l ∧ (l ++ r).dropWhile p = r := by
  have e1 : l.takeWhile p = l := by
    clear hr
    induction l with
    | nil => rfl
    | cons b t ih =>
      simp only [List.all_cons, Bool.and_eq_true] at h
      simp [h.1, ih h.2]
  have e2 : l.dropWhile p = [] := by
    clear hr e1
    induction l with
    | nil => rfl
    | cons b t ih =>
      simp only [List.all_cons, Bool.and_eq_true] at h
      rw [List.dropWhile_cons, if_pos h.1, ih h.2]
  rcases hr with rfl | ⟨c, u, rfl, hc⟩
  · simp [e1, e2]
  · obtain ⟨a1, a2⟩ := take_stop p l u c hc
    rw [a1, a2, e1, e2]
    simp
theorem Rest.l {r : List UInt8} (h : Rest r) : r = [] ∨ ∃ c u, r = c :: u ∧ isLet c = false := by
  rcases h with h | ⟨c, u, h, hc⟩
  · exact .inl h
  · exact .inr ⟨c, u, h, by simp [stops] at hc; simpa using hc.1⟩
theorem Rest.p {r : List UInt8} (h : Rest r) : r = [] ∨ ∃ c u, r = c :: u ∧ isPart c = false := by
  rcases h with h | ⟨c, u, h, hc⟩
  · exact .inl h
  · exact .inr ⟨c, u, h, by simp [stops] at hc; simpa using hc.2⟩
/-- what stands before a token, its text, the token by its line -/
structure Item where
  sep : List UInt8
  b : UInt8
  t : List UInt8
  k : Nat → Tk
structure Item.Good (P : List UInt8 → Nat × Rat) (x : Item) : Prop where
  rest : ∀ r, Rest (x.sep ++ r)
  skip : ∀ l n, skipG false (x.sep ++ x.b :: l) n = (x.b :: l, n + x.sep.count 10)
  tok : ∀ r n, Rest r → tok1 P x.b (x.t ++ r) n = (0, x.k n, r)
def flatI : List Item → List UInt8
  | [] => []
  | x :: L => x.sep ++ (x.b :: x.t) ++ flatI L
def lineI : List Item → Nat → Nat
  | [], n => n
  | x :: L, n => lineI L (n + x.sep.count 10)
def listI : List Item → Nat → List Tk
  | [], _ => []
  | x :: L, n => x.k (n + x.sep.count 10) :: listI L (n + x.sep.count 10)
theorem flatI_add (L : List Item) (x : Item) : flatI (L ++ [x]) = flatI L ++ (x.sep ++ (x.b :: x.t)) := by
  induction L with
  | nil => simp [flatI]
  | cons y L ih => simp [flatI, ih]
theorem lineI_add (L : List Item) (x : Item) (n : Nat) : lineI (L ++ [x]) n = lineI L n + x.sep.count 10 := by
  induction L generalizing n with
  | nil => rfl
  | cons y L ih => exact ih _
theorem listI_add (L : List Item) (x : Item) (n : Nat) : listI (L ++ [x]) n = listI L n ++ [x.k (lineI L n + x.sep.count 10)] := by
  induction L generalizing n with
  | nil => rfl
  | cons y L ih => simp [listI, lineI, ih]
theorem flatI_rest (L : List Item) (h : ∀ x ∈ L, x.Good P) : Rest (flatI L) := by
  cases L with
  | nil => exact .inl rfl
  | cons x L =>
    unfold flatI
    rw [List.append_assoc]
    exact (h x (by simp)).rest _
theorem toks_back (L : List Item) (n f : Nat) (h : ∀ x ∈ L, x.Good P) (hf : (flatI L).length < f) : toks P f (flatI L) n = (0, 0, listI L n ++ [⟨1, [], 0, lineI L n⟩]) := by
  induction L generalizing n f with
  | nil =>
    match f, hf with
    | f + 1, _ => rfl
  | cons x L ih =>
    have hx := h x (by simp)
    have hL : ∀ y ∈ L, y.Good P := fun y hy => h y (by simp [hy])
    match f, hf with
    | f + 1, hf =>
      have e : flatI (x :: L) = x.sep ++ x.b :: (x.t ++ flatI L) := by simp [flatI]
      rw [e] at hf ⊢
      simp only [toks, hx.skip, hx.tok _ _ (flatI_rest L hL), if_pos]
      rw [ih _ f hL (by simp at hf; omega)]
      rfl
def seps : List (List UInt8) := [[32], [10], [9, 13, 32], [35, 32, 123, 32, 49, 47, 48, 32, 65, 10], [10, 10, 35, 10]]
theorem sep_skip {s : List UInt8} (hs : s ∈ seps) (b : UInt8) (hb : b ≠ 10 ∧ isBlank b = false ∧ b ≠ 35) (l : List UInt8) (n : Nat) : skipG false (s ++ b :: l) n = (b :: l, n + s.count 10) := by
  obtain ⟨h1, h2, h3⟩ := hb
  have e : ∀ m, skipG false (b :: l) m = (b :: l, m) := fun m => by
    unfold skipG
    rw [if_neg h1, if_neg (by simp [h2, h3])]
  generalize b :: l = r at *
  simp only [seps, List.mem_cons, List.not_mem_nil, or_false] at hs
  rcases hs with rfl | rfl | rfl | rfl | rfl <;> simp [skipG, e, isBlank]
theorem sep_rest {s : List UInt8} (hs : s ∈ seps) (r : List UInt8) : Rest (s ++ r) := by
  simp only [seps, List.mem_cons, List.not_mem_nil, or_false] at hs
  rcases hs with rfl | rfl | rfl | rfl | rfl <;> exact .inr ⟨_, _, rfl, by decide⟩
theorem not_skip {b : UInt8} (h : isLet b = true ∨ isPart b = true ∨ isSign b = true) : b ≠ 10 ∧ isBlank b = false ∧ b ≠ 35 := by
  refine ⟨?_, ?_, ?_⟩
  · rintro rfl; revert h; decide
  · unfold isBlank
    refine Decidable.byContradiction fun hb => ?_
    rw [Bool.not_eq_false] at hb
    have : b = 32 ∨ b = 9 ∨ b = 13 := by simpa [or_assoc] using hb
    rcases this with rfl | rfl | rfl <;> revert h <;> decide
  · rintro rfl; revert h; decide
theorem good_word {s : List UInt8} (hs : s ∈ seps) (b : UInt8) (t : List UInt8) (h : (b :: t).all isLet = true) : Item.Good P ⟨s, b, t, fun n => ⟨2, b :: t, 0, n⟩⟩ := by
  simp only [List.all_cons, Bool.and_eq_true] at h
  refine ⟨fun r => sep_rest hs r, fun l n => sep_skip hs b (not_skip (.inl h.1)) l n, fun r n hr => ?_⟩
  obtain ⟨e1, e2⟩ := take_all isLet t r h.2 hr.l
  simp only [tok1, h.1, if_true, e1, e2]
theorem let_part {b : UInt8} (h : isPart b = true) : isLet b = false := by
  unfold isPart isLet at *
  simp only [Bool.or_eq_true, Bool.and_eq_true, decide_eq_true_eq, beq_iff_eq] at h
  rw [Bool.and_eq_false_iff, decide_eq_false_iff_not]
  left
  rcases h with (h | rfl) | rfl
  · have := UInt8.le_iff_toNat_le.1 h.2
    rw [UInt8.le_iff_toNat_le]
    intro h'
    have a : (57 : UInt8).toNat = 57 := rfl
    have c : (97 : UInt8).toNat = 97 := rfl
    omega
  · decide
  · decide
theorem good_num {s : List UInt8} (hs : s ∈ seps) (b : UInt8) (t : List UInt8) (q : Rat) (h : (b :: t).all isPart = true) (hb : b ≠ 47) (hP : P (b :: t) = (0, q)) : Item.Good P ⟨s, b, t, fun n => ⟨3, [], q, n⟩⟩ := by
  simp only [List.all_cons, Bool.and_eq_true] at h
  refine ⟨fun r => sep_rest hs r, fun l n => sep_skip hs b (not_skip (.inr (.inl h.1))) l n, fun r n hr => ?_⟩
  obtain ⟨e1, e2⟩ := take_all isPart t r h.2 hr.p
  have hb' : (b != 47) = true := by simpa using hb
  simp [tok1, let_part h.1, h.1, hb', e1, e2, hP]
theorem sign_no {b : UInt8} (h : isSign b = true) : isLet b = false ∧ isPart b = false := by
  unfold isSign at h
  have : b = 123 ∨ b = 125 ∨ b = 91 ∨ b = 93 ∨ b = 58 ∨ b = 44 := by simpa [or_assoc] using h
  rcases this with rfl | rfl | rfl | rfl | rfl | rfl <;> decide
theorem good_sign {s : List UInt8} (hs : s ∈ seps) (b : UInt8) (h : isSign b = true) : Item.Good P ⟨s, b, [], fun n => ⟨4, [b], 0, n⟩⟩ := by
  refine ⟨fun r => sep_rest hs r, fun l n => sep_skip hs b (not_skip (.inr (.inr h))) l n, fun r n _ => ?_⟩
  obtain ⟨e1, e2⟩ := sign_no h
  simp [tok1, e1, e2, h]
end Go.Proofs.YtcinoicpibleoaaGreatDoor
namespace Go.Proofs.YtcinoicpibleoaaGreatDoor
open Go.RowKit

theorem let_nat (b : UInt8) : isLet b = (decide (97 ≤ b.toNat) && decide (b.toNat ≤ 122)) := rfl
def digB (b : UInt8) : Bool := decide (48 ≤ b) && decide (b ≤ 57)
theorem dig_nat (b : UInt8) : digB b = (decide (48 ≤ b.toNat) && decide (b.toNat ≤ 57)) := rfl
def noLine (b : UInt8) : Bool := !decide (b = 10)
theorem eq_nat (b : UInt8) (n : Nat) (hn : n < 256) : decide (b = UInt8.ofNat n) = decide ((b.toNat : Int) = n) := by
  rw [decide_eq_decide, ← UInt8.toNat_inj, UInt8.toNat_ofNat', Nat.mod_eq_of_lt (show n < 2 ^ 8 from hn)]
  omega
/-- the first place from p on at which there is no byte of those that are in -/
def endF (f : UInt8 → Bool) (s : ByteArray) (p : Nat) : Nat := p + ((s.data.toList.drop p).takeWhile f).length
theorem endF_at {f : UInt8 → Bool} {s : ByteArray} {p : Nat} (h : p < s.size) : endF f s p = if f s[p] = true then endF f s (p + 1) else p := by
  unfold endF
  have h' : p < s.data.toList.length := by simpa using h
  rw [List.drop_eq_getElem_cons h', List.takeWhile_cons]
  have e : s.data.toList[p] = s[p] := rfl
  rw [e]
  split <;> simp <;> omega
theorem endF_end {f : UInt8 → Bool} {s : ByteArray} {p : Nat} (h : ¬ p < s.size) : endF f s p = p := by
  unfold endF
  have h' : s.data.toList.length ≤ p := by simpa using h
  rw [List.drop_eq_nil_of_le h']
  simp
theorem drop_take (f : UInt8 → Bool) (l : List UInt8) : l.drop (l.takeWhile f).length = l.dropWhile f := by
  induction l with
  | nil => rfl
  | cons b t ih =>
    rw [List.takeWhile_cons, List.dropWhile_cons]
    split
    · exact ih
    · rfl
theorem endF_le {f : UInt8 → Bool} {s : ByteArray} {p : Nat} (h : p ≤ s.size) : endF f s p ≤ s.size := by
  unfold endF
  have h1 := (List.takeWhile_sublist f (l := s.data.toList.drop p)).length_le
  have h2 : (s.data.toList.drop p).length = s.size - p := by simp
  omega
theorem endF_ge {f : UInt8 → Bool} {s : ByteArray} {p : Nat} : p ≤ endF f s p := by unfold endF; omega

set_option maxRecDepth 100000 in
set_option maxHeartbeats 1000000 in
theorem tletter_any (b : UInt8) (w : World) :
    Calls Tryz.prog 104 #[.int .u8 (b.toNat : Int)] w fun e w' => e = .returned (.bool (isLet b)) ∧ Below w.heap.size w w' := by
  rw [let_nat]
  generalize b.toNat = n
  by_cases h1 : 97 ≤ n
  · by_cases h2 : n ≤ 122
    · have t1 : ¬ (n : Int) < 97 := by omega
      have t2 : ¬ (122 : Int) < (n : Int) := by omega
      have t3 : (97 : Int) ≤ (n : Int) := by omega
      have t4 : (n : Int) ≤ (122 : Int) := by omega
      rw [decide_eq_true h1, decide_eq_true h2]
      clear h1 h2
      go_enter Tryz.func104, Tryz.ntmps104
      go_wp2_with fail
      all_goals
        go_ret
        exact ⟨rfl, Below.refl _ _⟩
    · have t1 : ¬ (n : Int) < 97 := by omega
      have t2 : (122 : Int) < (n : Int) := by omega
      have t3 : (97 : Int) ≤ (n : Int) := by omega
      have t4 : ¬ (n : Int) ≤ (122 : Int) := by omega
      rw [decide_eq_true h1, decide_eq_false h2]
      clear h1 h2
      go_enter Tryz.func104, Tryz.ntmps104
      go_wp2_with fail
      all_goals
        go_ret
        exact ⟨rfl, Below.refl _ _⟩
  · have t1 : (n : Int) < 97 := by omega
    have t3 : ¬ (97 : Int) ≤ (n : Int) := by omega
    rw [decide_eq_false h1, Bool.false_and]
    clear h1
    go_enter Tryz.func104, Tryz.ntmps104
    go_wp2_with fail
    all_goals
      go_ret
      exact ⟨rfl, Below.refl _ _⟩

set_option maxRecDepth 100000 in
set_option maxHeartbeats 1000000 in
theorem tdigit_any (b : UInt8) (w : World) :
    Calls Tryz.prog 107 #[.int .u8 (b.toNat : Int)] w fun e w' => e = .returned (.bool (digB b)) ∧ Below w.heap.size w w' := by
  rw [dig_nat]
  generalize b.toNat = n
  by_cases h1 : 48 ≤ n
  · by_cases h2 : n ≤ 57
    · have t1 : ¬ (n : Int) < 48 := by omega
      have t2 : ¬ (57 : Int) < (n : Int) := by omega
      have t3 : (48 : Int) ≤ (n : Int) := by omega
      have t4 : (n : Int) ≤ (57 : Int) := by omega
      rw [decide_eq_true h1, decide_eq_true h2]
      clear h1 h2
      go_enter Tryz.func107, Tryz.ntmps107
      go_wp2_with fail
      all_goals
        go_ret
        exact ⟨rfl, Below.refl _ _⟩
    · have t1 : ¬ (n : Int) < 48 := by omega
      have t2 : (57 : Int) < (n : Int) := by omega
      have t3 : (48 : Int) ≤ (n : Int) := by omega
      have t4 : ¬ (n : Int) ≤ (57 : Int) := by omega
      rw [decide_eq_true h1, decide_eq_false h2]
      clear h1 h2
      go_enter Tryz.func107, Tryz.ntmps107
      go_wp2_with fail
      all_goals
        go_ret
        exact ⟨rfl, Below.refl _ _⟩
  · have t1 : (n : Int) < 48 := by omega
    have t3 : ¬ (48 : Int) ≤ (n : Int) := by omega
    rw [decide_eq_false h1, Bool.false_and]
    clear h1
    go_enter Tryz.func107, Tryz.ntmps107
    go_wp2_with fail
    all_goals
      go_ret
      exact ⟨rfl, Below.refl _ _⟩

set_option maxRecDepth 100000 in
set_option maxHeartbeats 1000000 in
theorem skip1_any (b : UInt8) (w : World) :
    Calls Tryz.prog 103 #[.int .u8 (b.toNat : Int)] w fun e w' => e = .returned (.bool (noLine b)) ∧ Below w.heap.size w w' := by
  unfold noLine
  rw [show (10 : UInt8) = UInt8.ofNat 10 from rfl, eq_nat b 10 (by decide)]
  generalize b.toNat = n
  by_cases h : (n : Int) = 10
  · have t1 : ((n : Int) != 10) = false := by rw [h]; rfl
    rw [decide_eq_true (show (n : Int) = (10 : Nat) from h)]
    clear h
    go_enter Tryz.func103, Tryz.ntmps103
    go_wp2_with fail
    go_ret
    exact ⟨rfl, Below.refl _ _⟩
  · have t1 : ((n : Int) != 10) = true := by simpa using h
    rw [decide_eq_false (show ¬ (n : Int) = (10 : Nat) from h)]
    clear h
    go_enter Tryz.func103, Tryz.ntmps103
    go_wp2_with fail
    go_ret
    exact ⟨rfl, Below.refl _ _⟩

set_option maxRecDepth 100000 in
set_option maxHeartbeats 1000000 in
theorem token1_any (b : UInt8) (w : World) :
    Calls Tryz.prog 105 #[.int .u8 (b.toNat : Int)] w fun e w' => e = .returned (.bool (isLet b)) ∧ Below w.heap.size w w' := by
  have H := Lib.hid (tletter_any b)
  generalize b.toNat = n at *
  generalize isLet b = v at *
  go_enter Tryz.func105, Tryz.ntmps105
  go_wp2_with fail
  refine (H.out _).mono ?_
  rintro e w1 ⟨rfl, hb⟩
  have Hb := Lib.hid hb; clear hb
  go_wp2_with fail
  go_ret
  exact ⟨rfl, Hb.out⟩

theorem part_nat (b : UInt8) : isPart b = (digB b || decide ((b.toNat : Int) = 45) || decide ((b.toNat : Int) = 47)) := by
  have h1 := eq_nat b 45 (by decide)
  have h2 := eq_nat b 47 (by decide)
  unfold isPart digB
  rw [show (b == 45) = decide (b = UInt8.ofNat 45) from rfl, show (b == 47) = decide (b = UInt8.ofNat 47) from rfl, h1, h2]
  rfl
set_option maxRecDepth 100000 in
set_option maxHeartbeats 1000000 in
theorem token2_any (b : UInt8) (w : World) :
    Calls Tryz.prog 108 #[.int .u8 (b.toNat : Int)] w fun e w' => e = .returned (.bool (isPart b)) ∧ Below w.heap.size w w' := by
  have H := Lib.hid (tdigit_any b)
  rw [part_nat]
  generalize b.toNat = n at *
  generalize digB b = v at *
  cases v
  · by_cases h1 : (n : Int) = 45
    · have t1 : ((n : Int) == 45) = true := by rw [h1]; rfl
      rw [decide_eq_true h1]
      clear h1
      go_enter Tryz.func108, Tryz.ntmps108
      go_wp2_with fail
      refine (H.out _).mono ?_
      rintro e w1 ⟨rfl, hb⟩
      have Hb := Lib.hid hb; clear hb
      go_wp2_with fail
      go_ret
      exact ⟨rfl, Hb.out⟩
    · have t1 : ((n : Int) == 45) = false := by simpa using h1
      rw [decide_eq_false h1]
      clear h1
      by_cases h2 : (n : Int) = 47
      · have t2 : ((n : Int) == 47) = true := by rw [h2]; rfl
        rw [decide_eq_true h2]
        clear h2
        go_enter Tryz.func108, Tryz.ntmps108
        go_wp2_with fail
        refine (H.out _).mono ?_
        rintro e w1 ⟨rfl, hb⟩
        have Hb := Lib.hid hb; clear hb
        go_wp2_with fail
        go_ret
        exact ⟨rfl, Hb.out⟩
      · have t2 : ((n : Int) == 47) = false := by simpa using h2
        rw [decide_eq_false h2]
        clear h2
        go_enter Tryz.func108, Tryz.ntmps108
        go_wp2_with fail
        refine (H.out _).mono ?_
        rintro e w1 ⟨rfl, hb⟩
        have Hb := Lib.hid hb; clear hb
        go_wp2_with fail
        go_ret
        exact ⟨rfl, Hb.out⟩
  · go_enter Tryz.func108, Tryz.ntmps108
    go_wp2_with fail
    refine (H.out _).mono ?_
    rintro e w1 ⟨rfl, hb⟩
    have Hb := Lib.hid hb; clear hb
    go_wp2_with fail
    go_ret
    exact ⟨rfl, Hb.out⟩

set_option maxRecDepth 100000 in
set_option maxHeartbeats 1000000 in
theorem end_line (s : ByteArray) (p : Nat) (w : World) (hp : p ≤ s.size) (hs : s.size ≤ 1048576) :
    Calls Tryz.prog 102 #[.string s, .int .i64 p, .func (.func 103) #[] #[]] w fun e w' => e = .returned (.int .i64 (endF noLine s p : Nat)) ∧ Below w.heap.size w w' := by
  go_enter Tryz.func102, Tryz.ntmps102
  go_wp2_with fail
  go_loopw [1] (fun v wr => ∃ k : Nat, k ≤ s.size ∧ v = .int .i64 k ∧ Hid (endF noLine s k = endF noLine s p) ∧ Hid (Below w.heap.size w wr)) (fun v _ => s.size - (intOf v).toNat)
  case atStart => exact ⟨p, hp, rfl, Lib.hid rfl, Lib.hid (Below.refl _ _)⟩
  case round =>
    obtain ⟨k, hk, rfl, he, hb⟩ := hrel
    by_cases hlt : k < s.size
    · have H := Lib.hid (skip1_any s[k])
      have HE := Lib.hid (endF_at (f := noLine) hlt)
      generalize hv : noLine s[k] = v at *
      clear hv
      cases v
      · go_wp2_with fail
        refine (H.out _).mono ?_
        rintro e w1 ⟨rfl, hb1⟩
        have HB := Lib.hid (Below.after (by first | exact hb.out | exact hb.out.drew) hb1)
        have HF := Lib.hid (show endF noLine s p = k from by rw [← he.out, HE.out, if_neg (by decide)])
        clear hb1 hb he HE H
        go_wp2_with fail
        go_ret
        rw [HF.out]
        exact ⟨rfl, HB.out⟩
      · go_wp2_with fail
        refine (H.out _).mono ?_
        rintro e w1 ⟨rfl, hb1⟩
        have HB := Lib.hid (Below.after (by first | exact hb.out | exact hb.out.drew) hb1)
        have HF := Lib.hid (show endF noLine s (k + 1) = endF noLine s p from by rw [← he.out, HE.out]; exact (if_pos (by trivial)).symm)
        clear hb1 hb he HE H
        go_wp2_with fail
        go_roundw
        case rel => exact ⟨k + 1, by omega, by go_num, HF, HB⟩
        case measure => simp [intOf]; omega
    · have HF := Lib.hid (show endF noLine s p = k from by rw [← he.out, endF_end hlt])
      go_wp2_with fail
      go_ret
      rw [HF.out]
      exact ⟨rfl, hb.out⟩

set_option maxRecDepth 100000 in
set_option maxHeartbeats 1000000 in
theorem end_let (s : ByteArray) (p : Nat) (w : World) (hp : p ≤ s.size) (hs : s.size ≤ 1048576) :
    Calls Tryz.prog 102 #[.string s, .int .i64 p, .func (.func 105) #[] #[]] w fun e w' => e = .returned (.int .i64 (endF isLet s p : Nat)) ∧ Below w.heap.size w w' := by
  go_enter Tryz.func102, Tryz.ntmps102
  go_wp2_with fail
  go_loopw [1] (fun v wr => ∃ k : Nat, k ≤ s.size ∧ v = .int .i64 k ∧ Hid (endF isLet s k = endF isLet s p) ∧ Hid (Below w.heap.size w wr)) (fun v _ => s.size - (intOf v).toNat)
  case atStart => exact ⟨p, hp, rfl, Lib.hid rfl, Lib.hid (Below.refl _ _)⟩
  case round =>
    obtain ⟨k, hk, rfl, he, hb⟩ := hrel
    by_cases hlt : k < s.size
    · have H := Lib.hid (token1_any s[k])
      have HE := Lib.hid (endF_at (f := isLet) hlt)
      generalize hv : isLet s[k] = v at *
      clear hv
      cases v
      · go_wp2_with fail
        refine (H.out _).mono ?_
        rintro e w1 ⟨rfl, hb1⟩
        have HB := Lib.hid (Below.after (by first | exact hb.out | exact hb.out.drew) hb1)
        have HF := Lib.hid (show endF isLet s p = k from by rw [← he.out, HE.out, if_neg (by decide)])
        clear hb1 hb he HE H
        go_wp2_with fail
        go_ret
        rw [HF.out]
        exact ⟨rfl, HB.out⟩
      · go_wp2_with fail
        refine (H.out _).mono ?_
        rintro e w1 ⟨rfl, hb1⟩
        have HB := Lib.hid (Below.after (by first | exact hb.out | exact hb.out.drew) hb1)
        have HF := Lib.hid (show endF isLet s (k + 1) = endF isLet s p from by rw [← he.out, HE.out]; exact (if_pos (by trivial)).symm)
        clear hb1 hb he HE H
        go_wp2_with fail
        go_roundw
        case rel => exact ⟨k + 1, by omega, by go_num, HF, HB⟩
        case measure => simp [intOf]; omega
    · have HF := Lib.hid (show endF isLet s p = k from by rw [← he.out, endF_end hlt])
      go_wp2_with fail
      go_ret
      rw [HF.out]
      exact ⟨rfl, hb.out⟩

set_option maxRecDepth 100000 in
set_option maxHeartbeats 1000000 in
theorem end_part (s : ByteArray) (p : Nat) (w : World) (hp : p ≤ s.size) (hs : s.size ≤ 1048576) :
    Calls Tryz.prog 102 #[.string s, .int .i64 p, .func (.func 108) #[] #[]] w fun e w' => e = .returned (.int .i64 (endF isPart s p : Nat)) ∧ Below w.heap.size w w' := by
  go_enter Tryz.func102, Tryz.ntmps102
  go_wp2_with fail
  go_loopw [1] (fun v wr => ∃ k : Nat, k ≤ s.size ∧ v = .int .i64 k ∧ Hid (endF isPart s k = endF isPart s p) ∧ Hid (Below w.heap.size w wr)) (fun v _ => s.size - (intOf v).toNat)
  case atStart => exact ⟨p, hp, rfl, Lib.hid rfl, Lib.hid (Below.refl _ _)⟩
  case round =>
    obtain ⟨k, hk, rfl, he, hb⟩ := hrel
    by_cases hlt : k < s.size
    · have H := Lib.hid (token2_any s[k])
      have HE := Lib.hid (endF_at (f := isPart) hlt)
      generalize hv : isPart s[k] = v at *
      clear hv
      cases v
      · go_wp2_with fail
        refine (H.out _).mono ?_
        rintro e w1 ⟨rfl, hb1⟩
        have HB := Lib.hid (Below.after (by first | exact hb.out | exact hb.out.drew) hb1)
        have HF := Lib.hid (show endF isPart s p = k from by rw [← he.out, HE.out, if_neg (by decide)])
        clear hb1 hb he HE H
        go_wp2_with fail
        go_ret
        rw [HF.out]
        exact ⟨rfl, HB.out⟩
      · go_wp2_with fail
        refine (H.out _).mono ?_
        rintro e w1 ⟨rfl, hb1⟩
        have HB := Lib.hid (Below.after (by first | exact hb.out | exact hb.out.drew) hb1)
        have HF := Lib.hid (show endF isPart s (k + 1) = endF isPart s p from by rw [← he.out, HE.out]; exact (if_pos (by trivial)).symm)
        clear hb1 hb he HE H
        go_wp2_with fail
        go_roundw
        case rel => exact ⟨k + 1, by omega, by go_num, HF, HB⟩
        case measure => simp [intOf]; omega
    · have HF := Lib.hid (show endF isPart s p = k from by rw [← he.out, endF_end hlt])
      go_wp2_with fail
      go_ret
      rw [HF.out]
      exact ⟨rfl, hb.out⟩

theorem skip_suf (r : Bool) (l : List UInt8) (n : Nat) : (skipG r l n).1 <:+ l := by
  induction l generalizing r n with
  | nil => simp [skipG]
  | cons b t ih =>
    unfold skipG
    split
    · exact (ih _ _).trans (List.suffix_cons _ _)
    · split
      · exact (ih _ _).trans (List.suffix_cons _ _)
      · exact List.suffix_refl _
theorem skip_remark (l : List UInt8) (n : Nat) : skipG true l n = skipG false (l.dropWhile noLine) n := by
  induction l generalizing n with
  | nil => rfl
  | cons b t ih =>
    rw [List.dropWhile_cons]
    by_cases h : b = 10
    · rw [if_neg (by simp [noLine, h])]
      simp [skipG, h]
    · rw [if_pos (by simp [noLine, h]), ← ih]
      conv => lhs; unfold skipG
      simp [h]
/-- where what follows begins, and its line -/
def skipP (s : ByteArray) (p n : Nat) : Nat := s.size - (skipG false (s.data.toList.drop p) n).1.length
def skipL (s : ByteArray) (p n : Nat) : Nat := (skipG false (s.data.toList.drop p) n).2
theorem skipP_le (s : ByteArray) (p n : Nat) : skipP s p n ≤ s.size := by unfold skipP; omega
theorem skipP_drop (s : ByteArray) (p n : Nat) (_hp : p ≤ s.size) : s.data.toList.drop (skipP s p n) = (skipG false (s.data.toList.drop p) n).1 := by
  unfold skipP
  obtain ⟨t, ht⟩ := (skip_suf false (s.data.toList.drop p) n).trans (List.drop_suffix p s.data.toList)
  have hl : s.size = t.length + (skipG false (s.data.toList.drop p) n).1.length := by
    rw [← List.length_append, ht]; simp
  generalize (skipG false (s.data.toList.drop p) n).1 = r at *
  rw [hl, Nat.add_sub_cancel, ← ht]
  simp
/-- in the middle of passing over -/
structure SkI (s : ByteArray) (p n k m : Nat) : Prop where
  eq : skipG false (s.data.toList.drop k) m = skipG false (s.data.toList.drop p) n
  le : k ≤ s.size
  ln : m ≤ n + k
theorem drop_at {s : ByteArray} {k : Nat} (h : k < s.size) : s.data.toList.drop k = s[k] :: s.data.toList.drop (k + 1) := by
  have h' : k < s.data.toList.length := by simpa using h
  rw [List.drop_eq_getElem_cons h']; rfl
theorem SkI.line {s : ByteArray} {p n k m : Nat} (h : SkI s p n k m) (hk : k < s.size) (hb : s[k] = 10) : SkI s p n (k + 1) (m + 1) := by
  refine ⟨?_, hk, by have := h.ln; omega⟩
  rw [← h.eq, drop_at hk, hb]
  simp [skipG]
theorem SkI.blank {s : ByteArray} {p n k m : Nat} (h : SkI s p n k m) (hk : k < s.size) (hn : s[k] ≠ 10) (hb : isBlank s[k] = true) : SkI s p n (k + 1) m := by
  refine ⟨?_, hk, by have := h.ln; omega⟩
  have h35 : (s[k] == 35) = false := by
    have : s[k] = 32 ∨ s[k] = 9 ∨ s[k] = 13 := by simpa [isBlank, or_assoc] using hb
    rcases this with e | e | e <;> rw [e] <;> decide
  rw [← h.eq, drop_at hk]
  conv => rhs; unfold skipG
  rw [if_neg hn, hb, h35]
  rfl
theorem SkI.remark {s : ByteArray} {p n k m : Nat} (h : SkI s p n k m) (hk : k < s.size) (hb : s[k] = 35) : SkI s p n (endF noLine s k) m := by
  refine ⟨?_, endF_le (Nat.le_of_lt hk), by have := h.ln; have := endF_ge (f := noLine) (s := s) (p := k); omega⟩
  rw [← h.eq]
  unfold endF
  rw [drop_at hk, hb]
  conv => rhs; unfold skipG
  rw [if_neg (by decide)]
  show _ = skipG true _ m
  rw [skip_remark]
  congr 1
  rw [List.takeWhile_cons, if_pos (by decide)]
  have : s.data.toList.drop (k + (35 :: (s.data.toList.drop (k + 1)).takeWhile noLine).length) = (s.data.toList.drop (k + 1)).drop ((s.data.toList.drop (k + 1)).takeWhile noLine).length := by
    rw [List.drop_drop]; congr 1; simp; omega
  rw [this]
  generalize s.data.toList.drop (k + 1) = l
  exact drop_take noLine l
theorem SkI.stop {s : ByteArray} {p n k m : Nat} (h : SkI s p n k m) (hk : k < s.size) (hn : s[k] ≠ 10) (hb : isBlank s[k] = false) (h35 : s[k] ≠ 35) : skipP s p n = k ∧ skipL s p n = m := by
  unfold skipP skipL
  rw [← h.eq, drop_at hk]
  have e : skipG false (s[k] :: s.data.toList.drop (k + 1)) m = (s[k] :: s.data.toList.drop (k + 1), m) := by
    unfold skipG
    rw [if_neg hn, if_neg (by simp [hb, h35])]
  rw [e]
  refine ⟨?_, rfl⟩
  simp; omega
theorem SkI.stop_end {s : ByteArray} {p n k m : Nat} (h : SkI s p n k m) (hk : ¬ k < s.size) : skipP s p n = k ∧ skipL s p n = m := by
  have := h.le
  unfold skipP skipL
  rw [← h.eq, List.drop_eq_nil_of_le (by simp; omega)]
  refine ⟨?_, rfl⟩
  simp [skipG]; omega
theorem byte_is (b : UInt8) (n : Nat) (hn : n < 256) : b = UInt8.ofNat n ↔ (b.toNat : Int) = n := by
  have := eq_nat b n hn
  exact decide_eq_decide.1 this
theorem is_not {x y : Int} (h : ¬ x = y) : (x == y) = false := by simpa using h
theorem is_yes {x y : Int} (h : x = y) : (x == y) = true := by simpa using h

set_option maxRecDepth 100000 in
set_option maxHeartbeats 2000000 in
theorem skip_any (s : ByteArray) (p n : Nat) (w : World) (hp : p ≤ s.size) (hs : s.size ≤ 1048576) (hn : n ≤ 1048576000) :
    Calls Tryz.prog 58 #[.string s, .int .i64 p, .int .i64 n] w fun e w' => e = .returned (.tuple #[.int .i64 (skipP s p n : Nat), .int .i64 (skipL s p n : Nat)]) ∧ Below w.heap.size w w' := by
  go_enter Tryz.func58, Tryz.ntmps58
  go_wp2_with fail
  go_loopw [1, 2] (fun v u wr => ∃ k m : Nat, v = .int .i64 k ∧ u = .int .i64 m ∧ k ≤ s.size ∧ m ≤ n + k ∧ Hid (SkI s p n k m) ∧ Hid (Below w.heap.size w wr)) (fun v _ _ => s.size - (intOf v).toNat)
  case atStart => exact ⟨p, n, rfl, rfl, hp, by omega, Lib.hid ⟨rfl, hp, by omega⟩, Lib.hid (Below.refl _ _)⟩
  case round =>
    obtain ⟨k, m, rfl, rfl, hk, hm, he, hb⟩ := hrel
    by_cases hlt : k < s.size
    · by_cases h10 : (s[k].toNat : Int) = 10
      · have t1 := is_yes h10
        have HE := Lib.hid (he.out.line hlt ((byte_is _ 10 (by decide)).2 h10))
        clear he h10
        go_wp2_with fail
        go_roundw
        case rel => exact ⟨k + 1, m + 1, by go_num, by go_num, by omega, by omega, HE, hb⟩
        case measure => simp [intOf]; omega
      · have t1 := is_not h10
        have N10 := Lib.hid (fun (e : s[k] = 10) => h10 ((byte_is s[k] 10 (by decide)).1 e))
        clear h10
        by_cases h32 : (s[k].toNat : Int) = 32
        · have t2 := is_yes h32
          have HE := Lib.hid (he.out.blank hlt N10.out (by rw [(byte_is _ 32 (by decide)).2 h32]; rfl))
          clear he h32
          go_wp2_with fail
          go_roundw
          case rel => exact ⟨k + 1, m, by go_num, rfl, by omega, by omega, HE, hb⟩
          case measure => simp [intOf]; omega
        · have t2 := is_not h32
          have N32 := Lib.hid (fun (e : s[k] = 32) => h32 ((byte_is s[k] 32 (by decide)).1 e))
          clear h32
          by_cases h9 : (s[k].toNat : Int) = 9
          · have t3 := is_yes h9
            have HE := Lib.hid (he.out.blank hlt N10.out (by rw [(byte_is _ 9 (by decide)).2 h9]; rfl))
            clear he h9
            go_wp2_with fail
            go_roundw
            case rel => exact ⟨k + 1, m, by go_num, rfl, by omega, by omega, HE, hb⟩
            case measure => simp [intOf]; omega
          · have t3 := is_not h9
            have N9 := Lib.hid (fun (e : s[k] = 9) => h9 ((byte_is s[k] 9 (by decide)).1 e))
            clear h9
            by_cases h13 : (s[k].toNat : Int) = 13
            · have t4 := is_yes h13
              have HE := Lib.hid (he.out.blank hlt N10.out (by rw [(byte_is _ 13 (by decide)).2 h13]; rfl))
              clear he h13
              go_wp2_with fail
              go_roundw
              case rel => exact ⟨k + 1, m, by go_num, rfl, by omega, by omega, HE, hb⟩
              case measure => simp [intOf]; omega
            · have t4 := is_not h13
              have NB := Lib.hid (show isBlank s[k] = false from by
                have a := N32.out; have c := N9.out; have d := fun (e : s[k] = 13) => h13 ((byte_is s[k] 13 (by decide)).1 e)
                unfold isBlank
                rw [beq_false_of_ne a, beq_false_of_ne c, beq_false_of_ne d]; rfl)
              clear h13 N32 N9
              by_cases h35 : (s[k].toNat : Int) = 35
              · have t5 := is_yes h35
                have h35' : s[k] = 35 := (byte_is _ 35 (by decide)).2 h35
                have HE := Lib.hid (he.out.remark hlt h35')
                have hgt : k < endF noLine s k := by
                  rw [endF_at hlt, if_pos (by rw [h35']; decide)]
                  exact endF_ge
                have hle : endF noLine s k ≤ s.size := endF_le hk
                have hz : m ≤ n + endF noLine s k := by omega
                have HC := Lib.hid (fun W => end_line s k W hk hs)
                clear he h35 h35'
                generalize endF noLine s k = z at *
                go_wp2_with fail
                refine (HC.out _).mono ?_
                rintro e w1 ⟨rfl, hb1⟩
                have HB := Lib.hid (Below.after (by first | exact hb.out | exact hb.out.drew) hb1)
                clear hb1 hb HC
                go_wp2_with fail
                go_roundw
                case rel => exact ⟨z, m, rfl, rfl, hle, hz, HE, HB⟩
                case measure => simp [intOf]; omega
              · have t5 := is_not h35
                have HF := Lib.hid (he.out.stop hlt N10.out NB.out (fun (e : s[k] = 35) => h35 ((byte_is s[k] 35 (by decide)).1 e)))
                clear he h35 N10 NB
                go_wp2_with fail
                go_ret2
                rw [HF.out.1, HF.out.2]
                exact ⟨rfl, hb.out⟩
    · have HF := Lib.hid (he.out.stop_end hlt)
      clear he
      go_wp2_with fail
      go_ret2
      rw [HF.out.1, HF.out.2]
      exact ⟨rfl, hb.out⟩
end Go.Proofs.YtcinoicpibleoaaGreatDoor
namespace Go.Proofs.YtcinoicpibleoaaGreatDoor
open Go.RowKit

theorem ext_take (f : UInt8 → Bool) (s : ByteArray) (p : Nat) : (s.extract p (endF f s p)).data.toList = (s.data.toList.drop p).takeWhile f := by
  rw [ByteArray.data_extract, Array.toList_extract]
  unfold List.extract endF
  rw [Nat.add_sub_cancel_left]
  generalize s.data.toList.drop p = l
  have h := List.takeWhile_append_dropWhile (p := f) (l := l)
  conv => lhs; arg 2; rw [← h]
  exact List.take_left
theorem drop_end (f : UInt8 → Bool) (s : ByteArray) (p : Nat) : s.data.toList.drop (endF f s p) = (s.data.toList.drop p).dropWhile f := by
  unfold endF
  rw [← List.drop_drop]
  generalize s.data.toList.drop p = l
  have h := List.takeWhile_append_dropWhile (p := f) (l := l)
  conv => lhs; arg 2; rw [← h]
  exact List.drop_left
theorem ext_one (s : ByteArray) (p : Nat) (h : p < s.size) : s.extract p (p + 1) = ⟨#[s[p]]⟩ := by
  apply ByteArray.ext
  apply Array.toList_inj.1
  rw [ByteArray.data_extract, Array.toList_extract]
  unfold List.extract
  rw [Nat.add_sub_cancel_left, drop_at h]
  rfl
/-- a token's cells -/
def tcells (k : Tk) (r : RV) : Array Value := #[.int .u8 (k.kind : Nat), .string ⟨k.s.toArray⟩, .bool r.num.neg, .slice r.num.A r.num.k r.num.c, .bool r.den.neg, .slice r.den.A r.den.k r.den.c, .int .i64 (k.line : Nat)]
/-- the token at a place, by the plain law -/
def tokAt (s : ByteArray) (p : Nat) (h : p < s.size) : Nat × Tk × List UInt8 := tok1 parseR s[p] (s.data.toList.drop (p + 1)) 0
/-- what token tells -/
def RetTok (s : ByteArray) (p : Nat) (h : p < s.size) (w : World) (e : Ending) (w' : World) : Prop :=
  ∃ (r : RV) (en : Nat), e = .returned (.tuple #[.agg (tcells (tokAt s p h).2.1 r), .int .i64 en, .int .i64 ((tokAt s p h).1 : Nat)]) ∧ Rests w' (w.heap.size ≤ ·) (RatN r (tokAt s p h).2.1.x) ∧ Below w.heap.size w w' ∧ ((tokAt s p h).1 = 0 → s.data.toList.drop en = (tokAt s p h).2.2 ∧ p < en ∧ en ≤ s.size)
theorem end_gt {f : UInt8 → Bool} {s : ByteArray} {p : Nat} (h : p < s.size) (hf : f s[p] = true) : p < endF f s p := by
  rw [endF_at h, if_pos hf]; exact endF_ge
theorem tok_word {s : ByteArray} {p : Nat} (h : p < s.size) (hf : isLet s[p] = true) : tokAt s p h = (0, ⟨2, (s.extract p (endF isLet s p)).data.toList, 0, 0⟩, s.data.toList.drop (endF isLet s p)) := by
  rw [ext_take, drop_end, drop_at h, List.takeWhile_cons, List.dropWhile_cons, if_pos hf, if_pos hf]
  unfold tokAt tok1
  rw [if_pos hf]
theorem tok_num {s : ByteArray} {p : Nat} (h : p < s.size) (h0 : isLet s[p] = false) (hf : (digB s[p] || decide ((s[p].toNat : Int) = 45)) = true) :
    tokAt s p h = ((if (parseR (s.extract p (endF isPart s p)).data.toList).1 = 11 then 20 else (parseR (s.extract p (endF isPart s p)).data.toList).1), ⟨3, [], (parseR (s.extract p (endF isPart s p)).data.toList).2, 0⟩, s.data.toList.drop (endF isPart s p)) := by
  have hp : isPart s[p] = true := by rw [part_nat, hf]; rfl
  have hn : (s[p] != 47) = true := by
    refine bne_iff_ne.2 fun e => ?_
    rw [e] at hf
    exact absurd hf (by decide)
  rw [ext_take, drop_end, drop_at h, List.takeWhile_cons, List.dropWhile_cons, if_pos hp, if_pos hp]
  unfold tokAt tok1
  rw [if_neg (by rw [h0]; decide), hp, hn, if_pos (by rfl)]
theorem not_num {s : ByteArray} {p : Nat} (h : p < s.size) (hf : (digB s[p] || decide ((s[p].toNat : Int) = 45)) = false) : (isPart s[p] && s[p] != 47) = false := by
  rw [part_nat, hf, Bool.false_or]
  by_cases e : s[p] = 47
  · rw [e]; rfl
  · rw [decide_eq_false fun e' => e ((byte_is s[p] 47 (by decide)).2 e')]; rfl
theorem tok_sign {s : ByteArray} {p : Nat} (h : p < s.size) (h0 : isLet s[p] = false) (hf : (digB s[p] || decide ((s[p].toNat : Int) = 45)) = false) (hs : isSign s[p] = true) :
    tokAt s p h = (0, ⟨4, (s.extract p (p + 1)).data.toList, 0, 0⟩, s.data.toList.drop (p + 1)) := by
  rw [ext_one s p h]
  unfold tokAt tok1
  rw [if_neg (by rw [h0]; decide), if_neg (by rw [not_num h hf]; decide), if_pos hs]
theorem tok_none {s : ByteArray} {p : Nat} (h : p < s.size) (h0 : isLet s[p] = false) (hf : (digB s[p] || decide ((s[p].toNat : Int) = 45)) = false) (hs : isSign s[p] = false) :
    tokAt s p h = (20, ⟨0, [], 0, 0⟩, s.data.toList.drop (p + 1)) := by
  unfold tokAt tok1
  rw [if_neg (by rw [h0]; decide), if_neg (by rw [not_num h hf]; decide), if_neg (by rw [hs]; decide)]
def signL : List UInt8 := [123, 125, 91, 93, 58, 44]
theorem sign_index (b : UInt8) : isSign b = decide (0 ≤ Lib.indexByte signL ((b.toNat : Int).toNat.toUInt8)) := by
  rw [show (b.toNat : Int).toNat.toUInt8 = b from by simp]
  have h : ∀ n : Fin 256, isSign (UInt8.ofNat n.val) = decide (0 ≤ Lib.indexByte signL (UInt8.ofNat n.val)) := by decide +kernel
  have := h ⟨b.toNat, b.toNat_lt⟩
  simpa using this
theorem sclone_any (s : ByteArray) (w : World) (hlim : s.size ≤ 281474976710656) :
    Calls Tryz.prog 106 #[.string s] w fun e w' => e = .returned (.string s) ∧ Below w.heap.size w w' := by
  have H := Lib.hid (Tryz.stringslite_Clone s w hlim)
  go_enter Tryz.func106, Tryz.ntmps106
  go_wp2_with fail
  refine H.out.mono ?_
  rintro e w1 ⟨rfl, hb⟩
  have Hb := Lib.hid hb; clear hb
  go_wp2_with fail
  go_ret
  exact ⟨rfl, Hb.out⟩
theorem Blk.c7 {w : World} {g : Nat} {t : TypeId} {a b c d e f h : Value} (H : Blk w g t #[a, b, c, d, e, f, h]) : w.cell? ⟨g, 0, none⟩ = some a ∧ w.cell? ⟨g, 1, none⟩ = some b ∧ w.cell? ⟨g, 2, none⟩ = some c ∧ w.cell? ⟨g, 3, none⟩ = some d ∧ w.cell? ⟨g, 4, none⟩ = some e ∧ w.cell? ⟨g, 5, none⟩ = some f ∧ w.cell? ⟨g, 6, none⟩ = some h := ⟨H.cell 0, H.cell 1, H.cell 2, H.cell 3, H.cell 4, H.cell 5, H.cell 6⟩
theorem Blk.f7 {w : World} {g : Nat} {t : TypeId} {a b c d e f h : Value} (H : Blk w g t #[a, b, c, d, e, f, h]) : w.frozen? ⟨g, 0, none⟩ = false ∧ w.frozen? ⟨g, 1, none⟩ = false ∧ w.frozen? ⟨g, 2, none⟩ = false ∧ w.frozen? ⟨g, 3, none⟩ = false ∧ w.frozen? ⟨g, 4, none⟩ = false ∧ w.frozen? ⟨g, 5, none⟩ = false ∧ w.frozen? ⟨g, 6, none⟩ = false := ⟨H.frozen 0, H.frozen 1, H.frozen 2, H.frozen 3, H.frozen 4, H.frozen 5, H.frozen 6⟩

/-- all seven cells of a box are set -/
def set7 (w : World) (g : Nat) (a b c d e f h : Value) : World := ((((((w.setCell ⟨g, 0, none⟩ a).setCell ⟨g, 1, none⟩ b).setCell ⟨g, 2, none⟩ c).setCell ⟨g, 3, none⟩ d).setCell ⟨g, 4, none⟩ e).setCell ⟨g, 5, none⟩ f).setCell ⟨g, 6, none⟩ h
section
variable {w : World} {g : Nat} {a b c d e f h u0 u1 u2 u3 u4 u5 u6 : Value} {t : TypeId}
theorem set7_eq : (((((((w.setCell ⟨g, 0, none⟩ a).setCell ⟨g, 1, none⟩ b).setCell ⟨g, 2, none⟩ c).setCell ⟨g, 3, none⟩ d).setCell ⟨g, 4, none⟩ e).setCell ⟨g, 5, none⟩ f).setCell ⟨g, 6, none⟩ h) = set7 w g a b c d e f h := rfl
theorem set7_blk (H : Blk w g t #[u0, u1, u2, u3, u4, u5, u6]) : Blk (set7 w g a b c d e f h) g t #[a, b, c, d, e, f, h] := by
  have h0 : Blk (w.setCell ⟨g, 0, none⟩ a) g t #[a, u1, u2, u3, u4, u5, u6] := H.set_ 0 a
  have h1 := (show Blk _ g t #[a, b, u2, u3, u4, u5, u6] from h0.set_ 1 b)
  have h2 := (show Blk _ g t #[a, b, c, u3, u4, u5, u6] from h1.set_ 2 c)
  have h3 := (show Blk _ g t #[a, b, c, d, u4, u5, u6] from h2.set_ 3 d)
  have h4 := (show Blk _ g t #[a, b, c, d, e, u5, u6] from h3.set_ 4 e)
  have h5 := (show Blk _ g t #[a, b, c, d, e, f, u6] from h4.set_ 5 f)
  exact (show Blk _ g t #[a, b, c, d, e, f, h] from h5.set_ 6 h)
theorem set7_c0 (H : Blk w g t #[u0, u1, u2, u3, u4, u5, u6]) : (set7 w g a b c d e f h).cell? ⟨g, 0, none⟩ = some a := (set7_blk H).cell 0
theorem set7_c1 (H : Blk w g t #[u0, u1, u2, u3, u4, u5, u6]) : (set7 w g a b c d e f h).cell? ⟨g, 1, none⟩ = some b := (set7_blk H).cell 1
theorem set7_c2 (H : Blk w g t #[u0, u1, u2, u3, u4, u5, u6]) : (set7 w g a b c d e f h).cell? ⟨g, 2, none⟩ = some c := (set7_blk H).cell 2
theorem set7_c3 (H : Blk w g t #[u0, u1, u2, u3, u4, u5, u6]) : (set7 w g a b c d e f h).cell? ⟨g, 3, none⟩ = some d := (set7_blk H).cell 3
theorem set7_c4 (H : Blk w g t #[u0, u1, u2, u3, u4, u5, u6]) : (set7 w g a b c d e f h).cell? ⟨g, 4, none⟩ = some e := (set7_blk H).cell 4
theorem set7_c5 (H : Blk w g t #[u0, u1, u2, u3, u4, u5, u6]) : (set7 w g a b c d e f h).cell? ⟨g, 5, none⟩ = some f := (set7_blk H).cell 5
theorem set7_c6 (H : Blk w g t #[u0, u1, u2, u3, u4, u5, u6]) : (set7 w g a b c d e f h).cell? ⟨g, 6, none⟩ = some h := (set7_blk H).cell 6
theorem set7_rests {F : Nat → Prop} {φ : World → Prop} (H : Rests w F φ) (hF : ¬ F g) : Rests (set7 w g a b c d e f h) F φ := ((((((H.set (a := ⟨g, 0, none⟩) hF a).set (a := ⟨g, 1, none⟩) hF b).set (a := ⟨g, 2, none⟩) hF c).set (a := ⟨g, 3, none⟩) hF d).set (a := ⟨g, 4, none⟩) hF e).set (a := ⟨g, 5, none⟩) hF f).set (a := ⟨g, 6, none⟩) hF h
theorem set7_below {B : Nat} {w0 : World} (H : Below B w0 w) (hg : B ≤ g) : Below B w0 (set7 w g a b c d e f h) := ((((((H.setCell (p := ⟨g, 0, none⟩) hg a).setCell (p := ⟨g, 1, none⟩) hg b).setCell (p := ⟨g, 2, none⟩) hg c).setCell (p := ⟨g, 3, none⟩) hg d).setCell (p := ⟨g, 4, none⟩) hg e).setCell (p := ⟨g, 5, none⟩) hg f).setCell (p := ⟨g, 6, none⟩) hg h
end
theorem RetTok.fin {s : ByteArray} {p : Nat} {hp : p < s.size} {w w' : World} {e en : Nat} {k : Tk} {r : RV} {rest : List UInt8} {g : Nat} {a b c d e' f h : Value} (ht : tokAt s p hp = (e, k, rest)) (hb : Below w.heap.size w w') (hg : w.heap.size = g)
    (hr : Rests w' (w.heap.size + 1 ≤ ·) (RatN r k.x)) (hto : e = 0 → s.data.toList.drop en = rest ∧ p < en ∧ en ≤ s.size) :
    RetTok s p hp w (.returned (.tuple #[.agg (tcells k r), .int .i64 en, .int .i64 e])) (set7 w' g a b c d e' f h) := by
  subst hg
  refine ⟨r, en, ?_, ?_, set7_below hb (Nat.le_refl _), ?_⟩
  · rw [ht]
  · rw [ht]
    exact (set7_rests hr (by show ¬ w.heap.size + 1 ≤ w.heap.size; omega)).mono (fun b hb => Nat.le_of_succ_le hb)
  · rw [ht]; exact hto

set_option maxRecDepth 100000 in
set_option maxHeartbeats 2000000 in
theorem token_word (s : ByteArray) (p : Nat) (w : World) (hp : p < s.size) (hs : s.size ≤ 1048576) (hT : Tz w) (hf : isLet s[p] = true) :
    Calls Tryz.prog 59 #[.string s, .int .i64 p] w (RetTok s p hp w) := by
  have Ht := Lib.hid (tok_word hp hf)
  have hgt := end_gt hp hf
  have hle := endF_le (f := isLet) (s := s) (p := p) (Nat.le_of_lt hp)
  have HE := Lib.hid (fun W => end_let s p W (Nat.le_of_lt hp) hs)
  have H1 := Lib.hid (fun W => tletter_any s[p] W)
  rw [hf] at H1
  clear hf
  generalize endF isLet s p = en at *
  have HC := Lib.hid (fun W => sclone_any (s.extract p en) W (by rw [ByteArray.size_extract]; omega))
  obtain ⟨W0, hW0⟩ : ∃ W0, W0 = (w.alloc (.cells #[.int .u8 0, .string ⟨#[]⟩, .bool false, .slice none 0 0, .bool false, .slice none 0 0, .int .i64 0] 33)) := ⟨_, rfl⟩
  obtain ⟨p0, pb⟩ := lay1 hW0
  have HB := Lib.hid p0
  have Hbel := Lib.hid pb
  have HT := Lib.hid (Rests.al1 (hT.old) hW0)
  clear p0 pb hT
  subst hW0
  go_enter Tryz.func59, Tryz.ntmps59
  go_wp2_with fail
  refine (H1.out _).mono ?_
  rintro e w1 ⟨rfl, hb⟩
  replace HB := Lib.hid (Blk.below (by first | exact HB.out | exact HB.out.drew) hb (by exact HB.out.lt))
  replace Hbel := Lib.hid (Below.after (by first | exact Hbel.out | exact Below.drew Hbel.out) hb)
  clear H1 HT
  clear hb
  go_wp2_with fail
  refine (HE.out _).mono ?_
  rintro e w2 ⟨rfl, hb⟩
  replace HB := Lib.hid (Blk.below (by first | exact HB.out | exact HB.out.drew) hb (by exact HB.out.lt))
  replace Hbel := Lib.hid (Below.after (by first | exact Hbel.out | exact Below.drew Hbel.out) hb)
  clear HE
  clear hb
  go_wp2_with fail
  refine (HC.out _).mono ?_
  rintro e w3 ⟨rfl, hb⟩
  replace HB := Lib.hid (Blk.below (by first | exact HB.out | exact HB.out.drew) hb (by exact HB.out.lt))
  replace Hbel := Lib.hid (Below.after (by first | exact Hbel.out | exact Below.drew Hbel.out) hb)
  clear HC
  clear hb
  obtain ⟨x0, x1, x2, x3, x4, x5, x6⟩ := Blk.c7 HB.out
  obtain ⟨f0, f1, f2, f3, f4, f5, f6⟩ := Blk.f7 HB.out
  go_wp2_with fail
  rw [set7_eq]
  exact bodyPost_ret (v := .tuple #[.agg #[.int .u8 2, .string (s.extract p en), .bool false, .slice none 0 0, .bool false, .slice none 0 0, .int .i64 0], .int .i64 en, .int .i64 0]) (by simp [results, Tryz.results59, go_sem, set7_c0 HB.out, set7_c1 HB.out, set7_c2 HB.out, set7_c3 HB.out, set7_c4 HB.out, set7_c5 HB.out, set7_c6 HB.out]) rfl (RetTok.fin (k := ⟨2, (s.extract p en).data.toList, 0, 0⟩) (r := zeroR) Ht.out (by first | exact Hbel.out | exact Hbel.out.drew) rfl (⟨zeroRN _, fun _ _ => zeroRN _⟩) (fun _ => ⟨rfl, hgt, hle⟩))

set_option maxRecDepth 100000 in
set_option maxHeartbeats 2000000 in
theorem token_dig11 (s : ByteArray) (p : Nat) (w : World) (hp : p < s.size) (hs : s.size ≤ 1048576) (hT : Tz w) (h0 : isLet s[p] = false) (hd : digB s[p] = true) (hk : (parseR (s.extract p (endF isPart s p)).data.toList).1 = 11) :
    Calls Tryz.prog 59 #[.string s, .int .i64 p] w (RetTok s p hp w) := by
  have hq : (digB s[p] || decide ((s[p].toNat : Int) = 45)) = true := by rw [hd]; rfl
  have Ht := tok_num hp h0 hq
  rw [if_pos hk] at Ht
  have hpart : isPart s[p] = true := by rw [part_nat, hq]; rfl
  have hgt := end_gt hp hpart
  have hle := endF_le (f := isPart) (s := s) (p := p) (Nat.le_of_lt hp)
  have HE := Lib.hid (fun W => end_part s p W (Nat.le_of_lt hp) hs)
  have H1 := Lib.hid (fun W => tletter_any s[p] W)
  rw [h0] at H1
  clear h0
  have H2 := Lib.hid (fun W => tdigit_any s[p] W)
  rw [hd] at H2
  clear hd hq hpart
  generalize endF isPart s p = en at *
  have HP := Lib.hid (fun W (h : Tz W) => rparse_ok W (s.extract p en) (by rw [ByteArray.size_extract]; omega) h)
  generalize (parseR (s.extract p en).data.toList).1 = k at *
  generalize (parseR (s.extract p en).data.toList).2 = q at *
  replace Ht := Lib.hid Ht
  have tk : ((k : Int) == 11) = true := by rw [hk]; rfl
  have HK := Lib.hid hk
  clear hk
  obtain ⟨W0, hW0⟩ : ∃ W0, W0 = (w.alloc (.cells #[.int .u8 0, .string ⟨#[]⟩, .bool false, .slice none 0 0, .bool false, .slice none 0 0, .int .i64 0] 33)) := ⟨_, rfl⟩
  obtain ⟨p0, pb⟩ := lay1 hW0
  have HB := Lib.hid p0
  have Hbel := Lib.hid pb
  have HT := Lib.hid (Rests.al1 (hT.old) hW0)
  clear p0 pb hT
  subst hW0
  go_enter Tryz.func59, Tryz.ntmps59
  go_wp2_with fail
  refine (H1.out _).mono ?_
  rintro e w1 ⟨rfl, hb⟩
  replace HB := Lib.hid (Blk.below (by first | exact HB.out | exact HB.out.drew) hb (by exact HB.out.lt))
  replace HT := Lib.hid (Rests.below (φ := Tz) (by first | exact HT.out | exact HT.out.drew) hb)
  replace Hbel := Lib.hid (Below.after (by first | exact Hbel.out | exact Below.drew Hbel.out) hb)
  clear H1
  clear hb
  go_wp2_with fail
  refine (H2.out _).mono ?_
  rintro e w2 ⟨rfl, hb⟩
  replace HB := Lib.hid (Blk.below (by first | exact HB.out | exact HB.out.drew) hb (by exact HB.out.lt))
  replace HT := Lib.hid (Rests.below (φ := Tz) (by first | exact HT.out | exact HT.out.drew) hb)
  replace Hbel := Lib.hid (Below.after (by first | exact Hbel.out | exact Below.drew Hbel.out) hb)
  clear H2
  clear hb
  go_wp2_with fail
  refine (HE.out _).mono ?_
  rintro e w3 ⟨rfl, hb⟩
  replace HB := Lib.hid (Blk.below (by first | exact HB.out | exact HB.out.drew) hb (by exact HB.out.lt))
  replace HT := Lib.hid (Rests.below (φ := Tz) (by first | exact HT.out | exact HT.out.drew) hb)
  replace Hbel := Lib.hid (Below.after (by first | exact Hbel.out | exact Below.drew Hbel.out) hb)
  clear HE
  clear hb
  go_wp2_with fail
  have hgl0 := HB.out.lt
  refine (HP.out _ (by first | exact HT.out.now | exact HT.out.drew.now)).mono ?_
  rintro e w4 ⟨r, rfl, hr, hb⟩
  replace HB := Lib.hid (Blk.below (by first | exact HB.out | exact HB.out.drew) hb (by exact HB.out.lt))
  replace Hbel := Lib.hid (Below.after (by first | exact Hbel.out | exact Below.drew Hbel.out) hb)
  have hgl := HB.out.lt
  have Hr := Lib.hid ((hr.mono (G := (w.heap.size + 1 ≤ ·)) (fun b hb' => by first | (exact Nat.le_trans hgl0 hb') | (simp only [World.drew_heap] at hb'; exact Nat.le_trans hgl0 hb'))).alloc (.cells #[.bool r.num.neg, .slice r.num.A r.num.k r.num.c, .bool r.den.neg, .slice r.den.A r.den.k r.den.c] 31))
  replace HB := Lib.hid (HB.out.alloc (.cells #[.bool r.num.neg, .slice r.num.A r.num.k r.num.c, .bool r.den.neg, .slice r.den.A r.den.k r.den.c] 31))
  have HX := Lib.hid (Blk.new w4 31 #[.bool r.num.neg, .slice r.num.A r.num.k r.num.c, .bool r.den.neg, .slice r.den.A r.den.k r.den.c])
  replace Hbel := Lib.hid (Hbel.out.alloc Hbel.out.size (.cells #[.bool r.num.neg, .slice r.num.A r.num.k r.num.c, .bool r.den.neg, .slice r.den.A r.den.k r.den.c] 31))
  clear HP HT hr hgl0 hgl hb
  go_upto_region 10 with fail
  generalize hW4 : w4.alloc (.cells #[.bool r.num.neg, .slice r.num.A r.num.k r.num.c, .bool r.den.neg, .slice r.den.A r.den.k r.den.c] 31) = W4 at *
  generalize hgx : w4.heap.size = gx at *
  clear hW4 hgx
  obtain ⟨y0, y1, y2, y3⟩ := Blk.c4 HX.out
  obtain ⟨x0, x1, x2, x3, x4, x5, x6⟩ := Blk.c7 HB.out
  obtain ⟨f0, f1, f2, f3, f4, f5, f6⟩ := Blk.f7 HB.out
  go_wp2_with fail
  rw [set7_eq]
  exact bodyPost_ret (v := .tuple #[.agg #[.int .u8 3, .string (⟨#[]⟩), .bool r.num.neg, .slice r.num.A r.num.k r.num.c, .bool r.den.neg, .slice r.den.A r.den.k r.den.c, .int .i64 0], .int .i64 en, .int .i64 20]) (by simp [results, Tryz.results59, go_sem, set7_c0 HB.out, set7_c1 HB.out, set7_c2 HB.out, set7_c3 HB.out, set7_c4 HB.out, set7_c5 HB.out, set7_c6 HB.out]) rfl (RetTok.fin (k := ⟨3, [], q, 0⟩) (r := r) Ht.out (by first | exact Hbel.out | exact Hbel.out.drew) rfl (by first | exact Hr.out | exact Hr.out.drew) (fun _ => ⟨rfl, hgt, hle⟩))

set_option maxRecDepth 100000 in
set_option maxHeartbeats 2000000 in
theorem token_dig (s : ByteArray) (p : Nat) (w : World) (hp : p < s.size) (hs : s.size ≤ 1048576) (hT : Tz w) (h0 : isLet s[p] = false) (hd : digB s[p] = true) (hk : (parseR (s.extract p (endF isPart s p)).data.toList).1 ≠ 11) :
    Calls Tryz.prog 59 #[.string s, .int .i64 p] w (RetTok s p hp w) := by
  have hq : (digB s[p] || decide ((s[p].toNat : Int) = 45)) = true := by rw [hd]; rfl
  have Ht := tok_num hp h0 hq
  rw [if_neg hk] at Ht
  have hpart : isPart s[p] = true := by rw [part_nat, hq]; rfl
  have hgt := end_gt hp hpart
  have hle := endF_le (f := isPart) (s := s) (p := p) (Nat.le_of_lt hp)
  have HE := Lib.hid (fun W => end_part s p W (Nat.le_of_lt hp) hs)
  have H1 := Lib.hid (fun W => tletter_any s[p] W)
  rw [h0] at H1
  clear h0
  have H2 := Lib.hid (fun W => tdigit_any s[p] W)
  rw [hd] at H2
  clear hd hq hpart
  generalize endF isPart s p = en at *
  have HP := Lib.hid (fun W (h : Tz W) => rparse_ok W (s.extract p en) (by rw [ByteArray.size_extract]; omega) h)
  generalize (parseR (s.extract p en).data.toList).1 = k at *
  generalize (parseR (s.extract p en).data.toList).2 = q at *
  replace Ht := Lib.hid Ht
  have tk : ((k : Int) == 11) = false := by simp; omega
  have HK := Lib.hid hk
  clear hk
  obtain ⟨W0, hW0⟩ : ∃ W0, W0 = (w.alloc (.cells #[.int .u8 0, .string ⟨#[]⟩, .bool false, .slice none 0 0, .bool false, .slice none 0 0, .int .i64 0] 33)) := ⟨_, rfl⟩
  obtain ⟨p0, pb⟩ := lay1 hW0
  have HB := Lib.hid p0
  have Hbel := Lib.hid pb
  have HT := Lib.hid (Rests.al1 (hT.old) hW0)
  clear p0 pb hT
  subst hW0
  go_enter Tryz.func59, Tryz.ntmps59
  go_wp2_with fail
  refine (H1.out _).mono ?_
  rintro e w1 ⟨rfl, hb⟩
  replace HB := Lib.hid (Blk.below (by first | exact HB.out | exact HB.out.drew) hb (by exact HB.out.lt))
  replace HT := Lib.hid (Rests.below (φ := Tz) (by first | exact HT.out | exact HT.out.drew) hb)
  replace Hbel := Lib.hid (Below.after (by first | exact Hbel.out | exact Below.drew Hbel.out) hb)
  clear H1
  clear hb
  go_wp2_with fail
  refine (H2.out _).mono ?_
  rintro e w2 ⟨rfl, hb⟩
  replace HB := Lib.hid (Blk.below (by first | exact HB.out | exact HB.out.drew) hb (by exact HB.out.lt))
  replace HT := Lib.hid (Rests.below (φ := Tz) (by first | exact HT.out | exact HT.out.drew) hb)
  replace Hbel := Lib.hid (Below.after (by first | exact Hbel.out | exact Below.drew Hbel.out) hb)
  clear H2
  clear hb
  go_wp2_with fail
  refine (HE.out _).mono ?_
  rintro e w3 ⟨rfl, hb⟩
  replace HB := Lib.hid (Blk.below (by first | exact HB.out | exact HB.out.drew) hb (by exact HB.out.lt))
  replace HT := Lib.hid (Rests.below (φ := Tz) (by first | exact HT.out | exact HT.out.drew) hb)
  replace Hbel := Lib.hid (Below.after (by first | exact Hbel.out | exact Below.drew Hbel.out) hb)
  clear HE
  clear hb
  go_wp2_with fail
  have hgl0 := HB.out.lt
  refine (HP.out _ (by first | exact HT.out.now | exact HT.out.drew.now)).mono ?_
  rintro e w4 ⟨r, rfl, hr, hb⟩
  replace HB := Lib.hid (Blk.below (by first | exact HB.out | exact HB.out.drew) hb (by exact HB.out.lt))
  replace Hbel := Lib.hid (Below.after (by first | exact Hbel.out | exact Below.drew Hbel.out) hb)
  have hgl := HB.out.lt
  have Hr := Lib.hid ((hr.mono (G := (w.heap.size + 1 ≤ ·)) (fun b hb' => by first | (exact Nat.le_trans hgl0 hb') | (simp only [World.drew_heap] at hb'; exact Nat.le_trans hgl0 hb'))).alloc (.cells #[.bool r.num.neg, .slice r.num.A r.num.k r.num.c, .bool r.den.neg, .slice r.den.A r.den.k r.den.c] 31))
  replace HB := Lib.hid (HB.out.alloc (.cells #[.bool r.num.neg, .slice r.num.A r.num.k r.num.c, .bool r.den.neg, .slice r.den.A r.den.k r.den.c] 31))
  have HX := Lib.hid (Blk.new w4 31 #[.bool r.num.neg, .slice r.num.A r.num.k r.num.c, .bool r.den.neg, .slice r.den.A r.den.k r.den.c])
  replace Hbel := Lib.hid (Hbel.out.alloc Hbel.out.size (.cells #[.bool r.num.neg, .slice r.num.A r.num.k r.num.c, .bool r.den.neg, .slice r.den.A r.den.k r.den.c] 31))
  clear HP HT hr hgl0 hgl hb
  go_upto_region 10 with fail
  generalize hW4 : w4.alloc (.cells #[.bool r.num.neg, .slice r.num.A r.num.k r.num.c, .bool r.den.neg, .slice r.den.A r.den.k r.den.c] 31) = W4 at *
  generalize hgx : w4.heap.size = gx at *
  clear hW4 hgx
  obtain ⟨y0, y1, y2, y3⟩ := Blk.c4 HX.out
  obtain ⟨x0, x1, x2, x3, x4, x5, x6⟩ := Blk.c7 HB.out
  obtain ⟨f0, f1, f2, f3, f4, f5, f6⟩ := Blk.f7 HB.out
  go_wp2_with fail
  rw [set7_eq]
  exact bodyPost_ret (v := .tuple #[.agg #[.int .u8 3, .string (⟨#[]⟩), .bool r.num.neg, .slice r.num.A r.num.k r.num.c, .bool r.den.neg, .slice r.den.A r.den.k r.den.c, .int .i64 0], .int .i64 en, .int .i64 k]) (by simp [results, Tryz.results59, go_sem, set7_c0 HB.out, set7_c1 HB.out, set7_c2 HB.out, set7_c3 HB.out, set7_c4 HB.out, set7_c5 HB.out, set7_c6 HB.out]) rfl (RetTok.fin (k := ⟨3, [], q, 0⟩) (r := r) Ht.out (by first | exact Hbel.out | exact Hbel.out.drew) rfl (by first | exact Hr.out | exact Hr.out.drew) (fun _ => ⟨rfl, hgt, hle⟩))

set_option maxRecDepth 100000 in
set_option maxHeartbeats 2000000 in
theorem token_neg11 (s : ByteArray) (p : Nat) (w : World) (hp : p < s.size) (hs : s.size ≤ 1048576) (hT : Tz w) (h0 : isLet s[p] = false) (hd : digB s[p] = false) (h45 : (s[p].toNat : Int) = 45) (hk : (parseR (s.extract p (endF isPart s p)).data.toList).1 = 11) :
    Calls Tryz.prog 59 #[.string s, .int .i64 p] w (RetTok s p hp w) := by
  have hq : (digB s[p] || decide ((s[p].toNat : Int) = 45)) = true := by rw [hd]; rw [decide_eq_true h45]; rfl
  have Ht := tok_num hp h0 hq
  rw [if_pos hk] at Ht
  have hpart : isPart s[p] = true := by rw [part_nat, hq]; rfl
  have hgt := end_gt hp hpart
  have hle := endF_le (f := isPart) (s := s) (p := p) (Nat.le_of_lt hp)
  have HE := Lib.hid (fun W => end_part s p W (Nat.le_of_lt hp) hs)
  have H1 := Lib.hid (fun W => tletter_any s[p] W)
  rw [h0] at H1
  clear h0
  have H2 := Lib.hid (fun W => tdigit_any s[p] W)
  rw [hd] at H2
  have t45 := is_yes h45; clear h45
  clear hd hq hpart
  generalize endF isPart s p = en at *
  have HP := Lib.hid (fun W (h : Tz W) => rparse_ok W (s.extract p en) (by rw [ByteArray.size_extract]; omega) h)
  generalize (parseR (s.extract p en).data.toList).1 = k at *
  generalize (parseR (s.extract p en).data.toList).2 = q at *
  replace Ht := Lib.hid Ht
  have tk : ((k : Int) == 11) = true := by rw [hk]; rfl
  have HK := Lib.hid hk
  clear hk
  obtain ⟨W0, hW0⟩ : ∃ W0, W0 = (w.alloc (.cells #[.int .u8 0, .string ⟨#[]⟩, .bool false, .slice none 0 0, .bool false, .slice none 0 0, .int .i64 0] 33)) := ⟨_, rfl⟩
  obtain ⟨p0, pb⟩ := lay1 hW0
  have HB := Lib.hid p0
  have Hbel := Lib.hid pb
  have HT := Lib.hid (Rests.al1 (hT.old) hW0)
  clear p0 pb hT
  subst hW0
  go_enter Tryz.func59, Tryz.ntmps59
  go_wp2_with fail
  refine (H1.out _).mono ?_
  rintro e w1 ⟨rfl, hb⟩
  replace HB := Lib.hid (Blk.below (by first | exact HB.out | exact HB.out.drew) hb (by exact HB.out.lt))
  replace HT := Lib.hid (Rests.below (φ := Tz) (by first | exact HT.out | exact HT.out.drew) hb)
  replace Hbel := Lib.hid (Below.after (by first | exact Hbel.out | exact Below.drew Hbel.out) hb)
  clear H1
  clear hb
  go_wp2_with fail
  refine (H2.out _).mono ?_
  rintro e w2 ⟨rfl, hb⟩
  replace HB := Lib.hid (Blk.below (by first | exact HB.out | exact HB.out.drew) hb (by exact HB.out.lt))
  replace HT := Lib.hid (Rests.below (φ := Tz) (by first | exact HT.out | exact HT.out.drew) hb)
  replace Hbel := Lib.hid (Below.after (by first | exact Hbel.out | exact Below.drew Hbel.out) hb)
  clear H2
  clear hb
  go_wp2_with fail
  refine (HE.out _).mono ?_
  rintro e w3 ⟨rfl, hb⟩
  replace HB := Lib.hid (Blk.below (by first | exact HB.out | exact HB.out.drew) hb (by exact HB.out.lt))
  replace HT := Lib.hid (Rests.below (φ := Tz) (by first | exact HT.out | exact HT.out.drew) hb)
  replace Hbel := Lib.hid (Below.after (by first | exact Hbel.out | exact Below.drew Hbel.out) hb)
  clear HE
  clear hb
  go_wp2_with fail
  have hgl0 := HB.out.lt
  refine (HP.out _ (by first | exact HT.out.now | exact HT.out.drew.now)).mono ?_
  rintro e w4 ⟨r, rfl, hr, hb⟩
  replace HB := Lib.hid (Blk.below (by first | exact HB.out | exact HB.out.drew) hb (by exact HB.out.lt))
  replace Hbel := Lib.hid (Below.after (by first | exact Hbel.out | exact Below.drew Hbel.out) hb)
  have hgl := HB.out.lt
  have Hr := Lib.hid ((hr.mono (G := (w.heap.size + 1 ≤ ·)) (fun b hb' => by first | (exact Nat.le_trans hgl0 hb') | (simp only [World.drew_heap] at hb'; exact Nat.le_trans hgl0 hb'))).alloc (.cells #[.bool r.num.neg, .slice r.num.A r.num.k r.num.c, .bool r.den.neg, .slice r.den.A r.den.k r.den.c] 31))
  replace HB := Lib.hid (HB.out.alloc (.cells #[.bool r.num.neg, .slice r.num.A r.num.k r.num.c, .bool r.den.neg, .slice r.den.A r.den.k r.den.c] 31))
  have HX := Lib.hid (Blk.new w4 31 #[.bool r.num.neg, .slice r.num.A r.num.k r.num.c, .bool r.den.neg, .slice r.den.A r.den.k r.den.c])
  replace Hbel := Lib.hid (Hbel.out.alloc Hbel.out.size (.cells #[.bool r.num.neg, .slice r.num.A r.num.k r.num.c, .bool r.den.neg, .slice r.den.A r.den.k r.den.c] 31))
  clear HP HT hr hgl0 hgl hb
  go_upto_region 10 with fail
  generalize hW4 : w4.alloc (.cells #[.bool r.num.neg, .slice r.num.A r.num.k r.num.c, .bool r.den.neg, .slice r.den.A r.den.k r.den.c] 31) = W4 at *
  generalize hgx : w4.heap.size = gx at *
  clear hW4 hgx
  obtain ⟨y0, y1, y2, y3⟩ := Blk.c4 HX.out
  obtain ⟨x0, x1, x2, x3, x4, x5, x6⟩ := Blk.c7 HB.out
  obtain ⟨f0, f1, f2, f3, f4, f5, f6⟩ := Blk.f7 HB.out
  go_wp2_with fail
  rw [set7_eq]
  exact bodyPost_ret (v := .tuple #[.agg #[.int .u8 3, .string (⟨#[]⟩), .bool r.num.neg, .slice r.num.A r.num.k r.num.c, .bool r.den.neg, .slice r.den.A r.den.k r.den.c, .int .i64 0], .int .i64 en, .int .i64 20]) (by simp [results, Tryz.results59, go_sem, set7_c0 HB.out, set7_c1 HB.out, set7_c2 HB.out, set7_c3 HB.out, set7_c4 HB.out, set7_c5 HB.out, set7_c6 HB.out]) rfl (RetTok.fin (k := ⟨3, [], q, 0⟩) (r := r) Ht.out (by first | exact Hbel.out | exact Hbel.out.drew) rfl (by first | exact Hr.out | exact Hr.out.drew) (fun _ => ⟨rfl, hgt, hle⟩))

set_option maxRecDepth 100000 in
set_option maxHeartbeats 2000000 in
theorem token_neg (s : ByteArray) (p : Nat) (w : World) (hp : p < s.size) (hs : s.size ≤ 1048576) (hT : Tz w) (h0 : isLet s[p] = false) (hd : digB s[p] = false) (h45 : (s[p].toNat : Int) = 45) (hk : (parseR (s.extract p (endF isPart s p)).data.toList).1 ≠ 11) :
    Calls Tryz.prog 59 #[.string s, .int .i64 p] w (RetTok s p hp w) := by
  have hq : (digB s[p] || decide ((s[p].toNat : Int) = 45)) = true := by rw [hd]; rw [decide_eq_true h45]; rfl
  have Ht := tok_num hp h0 hq
  rw [if_neg hk] at Ht
  have hpart : isPart s[p] = true := by rw [part_nat, hq]; rfl
  have hgt := end_gt hp hpart
  have hle := endF_le (f := isPart) (s := s) (p := p) (Nat.le_of_lt hp)
  have HE := Lib.hid (fun W => end_part s p W (Nat.le_of_lt hp) hs)
  have H1 := Lib.hid (fun W => tletter_any s[p] W)
  rw [h0] at H1
  clear h0
  have H2 := Lib.hid (fun W => tdigit_any s[p] W)
  rw [hd] at H2
  have t45 := is_yes h45; clear h45
  clear hd hq hpart
  generalize endF isPart s p = en at *
  have HP := Lib.hid (fun W (h : Tz W) => rparse_ok W (s.extract p en) (by rw [ByteArray.size_extract]; omega) h)
  generalize (parseR (s.extract p en).data.toList).1 = k at *
  generalize (parseR (s.extract p en).data.toList).2 = q at *
  replace Ht := Lib.hid Ht
  have tk : ((k : Int) == 11) = false := by simp; omega
  have HK := Lib.hid hk
  clear hk
  obtain ⟨W0, hW0⟩ : ∃ W0, W0 = (w.alloc (.cells #[.int .u8 0, .string ⟨#[]⟩, .bool false, .slice none 0 0, .bool false, .slice none 0 0, .int .i64 0] 33)) := ⟨_, rfl⟩
  obtain ⟨p0, pb⟩ := lay1 hW0
  have HB := Lib.hid p0
  have Hbel := Lib.hid pb
  have HT := Lib.hid (Rests.al1 (hT.old) hW0)
  clear p0 pb hT
  subst hW0
  go_enter Tryz.func59, Tryz.ntmps59
  go_wp2_with fail
  refine (H1.out _).mono ?_
  rintro e w1 ⟨rfl, hb⟩
  replace HB := Lib.hid (Blk.below (by first | exact HB.out | exact HB.out.drew) hb (by exact HB.out.lt))
  replace HT := Lib.hid (Rests.below (φ := Tz) (by first | exact HT.out | exact HT.out.drew) hb)
  replace Hbel := Lib.hid (Below.after (by first | exact Hbel.out | exact Below.drew Hbel.out) hb)
  clear H1
  clear hb
  go_wp2_with fail
  refine (H2.out _).mono ?_
  rintro e w2 ⟨rfl, hb⟩
  replace HB := Lib.hid (Blk.below (by first | exact HB.out | exact HB.out.drew) hb (by exact HB.out.lt))
  replace HT := Lib.hid (Rests.below (φ := Tz) (by first | exact HT.out | exact HT.out.drew) hb)
  replace Hbel := Lib.hid (Below.after (by first | exact Hbel.out | exact Below.drew Hbel.out) hb)
  clear H2
  clear hb
  go_wp2_with fail
  refine (HE.out _).mono ?_
  rintro e w3 ⟨rfl, hb⟩
  replace HB := Lib.hid (Blk.below (by first | exact HB.out | exact HB.out.drew) hb (by exact HB.out.lt))
  replace HT := Lib.hid (Rests.below (φ := Tz) (by first | exact HT.out | exact HT.out.drew) hb)
  replace Hbel := Lib.hid (Below.after (by first | exact Hbel.out | exact Below.drew Hbel.out) hb)
  clear HE
  clear hb
  go_wp2_with fail
  have hgl0 := HB.out.lt
  refine (HP.out _ (by first | exact HT.out.now | exact HT.out.drew.now)).mono ?_
  rintro e w4 ⟨r, rfl, hr, hb⟩
  replace HB := Lib.hid (Blk.below (by first | exact HB.out | exact HB.out.drew) hb (by exact HB.out.lt))
  replace Hbel := Lib.hid (Below.after (by first | exact Hbel.out | exact Below.drew Hbel.out) hb)
  have hgl := HB.out.lt
  have Hr := Lib.hid ((hr.mono (G := (w.heap.size + 1 ≤ ·)) (fun b hb' => by first | (exact Nat.le_trans hgl0 hb') | (simp only [World.drew_heap] at hb'; exact Nat.le_trans hgl0 hb'))).alloc (.cells #[.bool r.num.neg, .slice r.num.A r.num.k r.num.c, .bool r.den.neg, .slice r.den.A r.den.k r.den.c] 31))
  replace HB := Lib.hid (HB.out.alloc (.cells #[.bool r.num.neg, .slice r.num.A r.num.k r.num.c, .bool r.den.neg, .slice r.den.A r.den.k r.den.c] 31))
  have HX := Lib.hid (Blk.new w4 31 #[.bool r.num.neg, .slice r.num.A r.num.k r.num.c, .bool r.den.neg, .slice r.den.A r.den.k r.den.c])
  replace Hbel := Lib.hid (Hbel.out.alloc Hbel.out.size (.cells #[.bool r.num.neg, .slice r.num.A r.num.k r.num.c, .bool r.den.neg, .slice r.den.A r.den.k r.den.c] 31))
  clear HP HT hr hgl0 hgl hb
  go_upto_region 10 with fail
  generalize hW4 : w4.alloc (.cells #[.bool r.num.neg, .slice r.num.A r.num.k r.num.c, .bool r.den.neg, .slice r.den.A r.den.k r.den.c] 31) = W4 at *
  generalize hgx : w4.heap.size = gx at *
  clear hW4 hgx
  obtain ⟨y0, y1, y2, y3⟩ := Blk.c4 HX.out
  obtain ⟨x0, x1, x2, x3, x4, x5, x6⟩ := Blk.c7 HB.out
  obtain ⟨f0, f1, f2, f3, f4, f5, f6⟩ := Blk.f7 HB.out
  go_wp2_with fail
  rw [set7_eq]
  exact bodyPost_ret (v := .tuple #[.agg #[.int .u8 3, .string (⟨#[]⟩), .bool r.num.neg, .slice r.num.A r.num.k r.num.c, .bool r.den.neg, .slice r.den.A r.den.k r.den.c, .int .i64 0], .int .i64 en, .int .i64 k]) (by simp [results, Tryz.results59, go_sem, set7_c0 HB.out, set7_c1 HB.out, set7_c2 HB.out, set7_c3 HB.out, set7_c4 HB.out, set7_c5 HB.out, set7_c6 HB.out]) rfl (RetTok.fin (k := ⟨3, [], q, 0⟩) (r := r) Ht.out (by first | exact Hbel.out | exact Hbel.out.drew) rfl (by first | exact Hr.out | exact Hr.out.drew) (fun _ => ⟨rfl, hgt, hle⟩))

set_option maxRecDepth 100000 in
set_option maxHeartbeats 2000000 in
theorem token_sign (s : ByteArray) (p : Nat) (w : World) (hp : p < s.size) (hs : s.size ≤ 1048576) (hT : Tz w) (h0 : isLet s[p] = false) (hd : digB s[p] = false) (h45 : ¬ (s[p].toNat : Int) = 45) (hg : isSign s[p] = true) :
    Calls Tryz.prog 59 #[.string s, .int .i64 p] w (RetTok s p hp w) := by
  have hq : (digB s[p] || decide ((s[p].toNat : Int) = 45)) = false := by rw [hd, decide_eq_false h45]; rfl
  have Ht := Lib.hid (tok_sign hp h0 hq hg)
  have HI := Lib.hid (fun W => Tryz.strings_IndexByte ⟨signL.toArray⟩ (s[p].toNat : Int) W)
  rw [sign_index] at hg
  simp only at HI
  have H1 := Lib.hid (fun W => tletter_any s[p] W)
  rw [h0] at H1
  clear h0
  have H2 := Lib.hid (fun W => tdigit_any s[p] W)
  rw [hd] at H2
  have t45 := is_not h45
  clear hd hq h45
  generalize Lib.indexByte signL ((s[p].toNat : Int).toNat.toUInt8) = ix at *
  have tx : (0 : Int) ≤ ix := by exact of_decide_eq_true hg
  clear hg
  have HC := Lib.hid (fun W => sclone_any (s.extract p (p + 1)) W (by rw [ByteArray.size_extract]; omega))
  obtain ⟨W0, hW0⟩ : ∃ W0, W0 = (w.alloc (.cells #[.int .u8 0, .string ⟨#[]⟩, .bool false, .slice none 0 0, .bool false, .slice none 0 0, .int .i64 0] 33)) := ⟨_, rfl⟩
  obtain ⟨p0, pb⟩ := lay1 hW0
  have HB := Lib.hid p0
  have Hbel := Lib.hid pb
  have HT := Lib.hid (Rests.al1 (hT.old) hW0)
  clear p0 pb hT
  subst hW0
  go_enter Tryz.func59, Tryz.ntmps59
  go_wp2_with fail
  refine (H1.out _).mono ?_
  rintro e w1 ⟨rfl, hb⟩
  replace HB := Lib.hid (Blk.below (by first | exact HB.out | exact HB.out.drew) hb (by exact HB.out.lt))
  replace Hbel := Lib.hid (Below.after (by first | exact Hbel.out | exact Below.drew Hbel.out) hb)
  clear H1 HT
  clear hb
  go_wp2_with fail
  refine (H2.out _).mono ?_
  rintro e w2 ⟨rfl, hb⟩
  replace HB := Lib.hid (Blk.below (by first | exact HB.out | exact HB.out.drew) hb (by exact HB.out.lt))
  replace Hbel := Lib.hid (Below.after (by first | exact Hbel.out | exact Below.drew Hbel.out) hb)
  clear H2
  clear hb
  go_wp2_with fail
  refine (HI.out _).mono ?_
  rintro e w3 ⟨rfl, hw⟩
  clear HI
  subst hw
  go_wp2_with fail
  refine (HC.out _).mono ?_
  rintro e w4 ⟨rfl, hb⟩
  replace HB := Lib.hid (Blk.below (by first | exact HB.out | exact HB.out.drew) hb (by exact HB.out.lt))
  replace Hbel := Lib.hid (Below.after (by first | exact Hbel.out | exact Below.drew Hbel.out) hb)
  clear HC
  clear hb
  obtain ⟨x0, x1, x2, x3, x4, x5, x6⟩ := Blk.c7 HB.out
  obtain ⟨f0, f1, f2, f3, f4, f5, f6⟩ := Blk.f7 HB.out
  go_wp2_with fail
  rw [set7_eq]
  exact bodyPost_ret (v := .tuple #[.agg #[.int .u8 4, .string (s.extract p (p + 1)), .bool false, .slice none 0 0, .bool false, .slice none 0 0, .int .i64 0], .int .i64 (p + 1 : Nat), .int .i64 0]) (by simp [results, Tryz.results59, go_sem, set7_c0 HB.out, set7_c1 HB.out, set7_c2 HB.out, set7_c3 HB.out, set7_c4 HB.out, set7_c5 HB.out, set7_c6 HB.out]) rfl (RetTok.fin (k := ⟨4, (s.extract p (p + 1)).data.toList, 0, 0⟩) (r := zeroR) Ht.out (by first | exact Hbel.out | exact Hbel.out.drew) rfl (⟨zeroRN _, fun _ _ => zeroRN _⟩) (fun _ => ⟨rfl, Nat.lt_succ_self _, hp⟩))

set_option maxRecDepth 100000 in
set_option maxHeartbeats 2000000 in
theorem token_none (s : ByteArray) (p : Nat) (w : World) (hp : p < s.size) (_hs : s.size ≤ 1048576) (hT : Tz w) (h0 : isLet s[p] = false) (hd : digB s[p] = false) (h45 : ¬ (s[p].toNat : Int) = 45) (hg : isSign s[p] = false) :
    Calls Tryz.prog 59 #[.string s, .int .i64 p] w (RetTok s p hp w) := by
  have hq : (digB s[p] || decide ((s[p].toNat : Int) = 45)) = false := by rw [hd, decide_eq_false h45]; rfl
  have Ht := Lib.hid (tok_none hp h0 hq hg)
  have HI := Lib.hid (fun W => Tryz.strings_IndexByte ⟨signL.toArray⟩ (s[p].toNat : Int) W)
  rw [sign_index] at hg
  simp only at HI
  have H1 := Lib.hid (fun W => tletter_any s[p] W)
  rw [h0] at H1
  clear h0
  have H2 := Lib.hid (fun W => tdigit_any s[p] W)
  rw [hd] at H2
  have t45 := is_not h45
  clear hd hq h45
  generalize Lib.indexByte signL ((s[p].toNat : Int).toNat.toUInt8) = ix at *
  have tx : ¬ (0 : Int) ≤ ix := by exact of_decide_eq_false hg
  clear hg
  obtain ⟨W0, hW0⟩ : ∃ W0, W0 = (w.alloc (.cells #[.int .u8 0, .string ⟨#[]⟩, .bool false, .slice none 0 0, .bool false, .slice none 0 0, .int .i64 0] 33)) := ⟨_, rfl⟩
  obtain ⟨p0, pb⟩ := lay1 hW0
  have HB := Lib.hid p0
  have Hbel := Lib.hid pb
  have HT := Lib.hid (Rests.al1 (hT.old) hW0)
  clear p0 pb hT
  subst hW0
  go_enter Tryz.func59, Tryz.ntmps59
  go_wp2_with fail
  refine (H1.out _).mono ?_
  rintro e w1 ⟨rfl, hb⟩
  replace HB := Lib.hid (Blk.below (by first | exact HB.out | exact HB.out.drew) hb (by exact HB.out.lt))
  replace Hbel := Lib.hid (Below.after (by first | exact Hbel.out | exact Below.drew Hbel.out) hb)
  clear H1 HT
  clear hb
  go_wp2_with fail
  refine (H2.out _).mono ?_
  rintro e w2 ⟨rfl, hb⟩
  replace HB := Lib.hid (Blk.below (by first | exact HB.out | exact HB.out.drew) hb (by exact HB.out.lt))
  replace Hbel := Lib.hid (Below.after (by first | exact Hbel.out | exact Below.drew Hbel.out) hb)
  clear H2
  clear hb
  go_wp2_with fail
  refine (HI.out _).mono ?_
  rintro e w3 ⟨rfl, hw⟩
  clear HI
  subst hw
  obtain ⟨x0, x1, x2, x3, x4, x5, x6⟩ := Blk.c7 HB.out
  obtain ⟨f0, f1, f2, f3, f4, f5, f6⟩ := Blk.f7 HB.out
  go_wp2_with fail
  rw [set7_eq]
  exact bodyPost_ret (v := .tuple #[.agg #[.int .u8 0, .string (⟨#[]⟩), .bool false, .slice none 0 0, .bool false, .slice none 0 0, .int .i64 0], .int .i64 p, .int .i64 20]) (by simp [results, Tryz.results59, go_sem, set7_c0 HB.out, set7_c1 HB.out, set7_c2 HB.out, set7_c3 HB.out, set7_c4 HB.out, set7_c5 HB.out, set7_c6 HB.out]) rfl (RetTok.fin (k := ⟨0, [], 0, 0⟩) (r := zeroR) Ht.out (by first | exact Hbel.out | exact Hbel.out.drew) rfl (⟨zeroRN _, fun _ _ => zeroRN _⟩) (fun h => absurd h (by decide)))

theorem token_any (s : ByteArray) (p : Nat) (w : World) (hp : p < s.size) (hs : s.size ≤ 1048576) (hT : Tz w) :
    Calls Tryz.prog 59 #[.string s, .int .i64 p] w (RetTok s p hp w) := by
  cases h0 : isLet s[p]
  · cases hd : digB s[p]
    · by_cases h45 : (s[p].toNat : Int) = 45
      · by_cases hk : (parseR (s.extract p (endF isPart s p)).data.toList).1 = 11
        · exact token_neg11 s p w hp hs hT h0 hd h45 hk
        · exact token_neg s p w hp hs hT h0 hd h45 hk
      · cases hg : isSign s[p]
        · exact token_none s p w hp hs hT h0 hd h45 hg
        · exact token_sign s p w hp hs hT h0 hd h45 hg
    · by_cases hk : (parseR (s.extract p (endF isPart s p)).data.toList).1 = 11
      · exact token_dig11 s p w hp hs hT h0 hd hk
      · exact token_dig s p w hp hs hT h0 hd hk
  · exact token_word s p w hp hs hT h0
end Go.Proofs.YtcinoicpibleoaaGreatDoor
