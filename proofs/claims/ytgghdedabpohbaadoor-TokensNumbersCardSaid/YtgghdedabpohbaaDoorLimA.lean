/-
  limbs: used, tidy, reader, Trim.
-/
import Derived.Test.YtgghdedabpohbaaDoorBase
namespace Go.Proofs.YtgghdedabpohbaaDoor
open Go.RowKit

theorem info_u64 : (Tryd.prog.info? 78).map (fun i => (i.zero, i.size, i.bytes)) = some (some (.int .u64 0), 1, 8) := by kernel_rfl
theorem size_u64 (w : World) : (sizeOf (Tryd.prog.elem 31)).run Tryd.prog w = .ok 1 w := by kernel_rfl

set_option maxHeartbeats 400000 in
theorem used_any (w : World) (A : Option Addr) (c : Nat) (l : List Nat) (hl : l.length ≤ 9223372036854775807) (hr : Rd w .u64 A l) :
    Calls Tryd.prog 76 #[.slice A l.length c] w fun e w' => e = .returned (.int .i64 (used l)) ∧ w = w' := by
  have hsl := hr.sl
  have h1 := size_u64
  have Hr := Lib.hid hr; clear hr
  unfold used
  go_enter Tryd.func76, Tryd.ntmps76
  go_wp2
  go_loop [3] (fun n => ∃ k : Nat, k ≤ l.length ∧ n = .int .i64 k ∧ Hid (usedN l l.length = usedN l k)) (fun n => (intOf n).toNat)
  case atStart => exact ⟨l.length, Nat.le_refl _, rfl, rfl⟩
  case round =>
    obtain ⟨k, hk, rfl, hu⟩ := hrel
    rcases k with _ | k
    · go_wp2
      go_ret
      exact ⟨ret_int (by rw [hu.out]; rfl), rfl⟩
    · have hcell := Hr.out.cell k (by omega)
      by_cases h0 : nth l k = 0
      · rw [h0] at hcell
        have Hu : Hid (usedN l l.length = usedN l k) := by rw [hu.out]; show usedN l (k + 1) = _; simp only [usedN, if_pos h0]
        clear h0 hu
        go_wp2
        go_round
        case rel => exact ⟨k, by omega, by go_num, Hu⟩
        case measure => simp [intOf]
      · have Hu : Hid (usedN l l.length = k + 1) := by rw [hu.out]; show usedN l (k + 1) = _; simp only [usedN, if_neg h0]
        have hne : ((nth l k : Int) == 0) = false := by simpa using h0
        clear h0 hu
        generalize nth l k = x at *
        go_wp2
        go_ret
        exact ⟨ret_int (by rw [Hu.out]; omega), rfl⟩

/-- a list whose places lie in blocks from B on -/
def Fr (B : Nat) (A : Option Addr) (l : List Nat) : Prop := ∀ i, i < l.length → B ≤ (adr A i).block
theorem Fr.none_ (B : Nat) (A : Option Addr) : Fr B A [] := fun i h => absurd h (by simp)
theorem Fr.of_blk {B g : Nat} (h : B ≤ g) (l : List Nat) : Fr B (some ⟨g, 0, none⟩) l := fun _ _ => h
/-- a result that is a list of digits, in new memory -/
def RetL (k : IntKind) (l : List Nat) (w : World) (e : Ending) (w' : World) : Prop := ∃ A c, e = .returned (.slice A l.length c) ∧ l.length ≤ c ∧ Rd w' k A l ∧ Below w.heap.size w w' ∧ Fr w.heap.size A l
/-- a result that is a list of digits in the memory of an argument -/
def RetIn (A : Option Addr) (c : Nat) (l : List Nat) (w : World) (e : Ending) (w' : World) : Prop := ∃ A' c', e = .returned (.slice A' l.length c') ∧ l.length ≤ c' ∧ (A' = none ∧ l = [] ∨ A' = A ∧ c' = c) ∧ w = w'

set_option maxHeartbeats 400000 in
theorem tidy_any (w : World) (A : Option Addr) (c : Nat) (l : List Nat) (hl : l.length ≤ 9223372036854775807) (hc : l.length ≤ c) (hr : Rd w .u64 A l) :
    Calls Tryd.prog 80 #[.slice A l.length c] w (RetIn A c (trim l) w) := by
  have hu := used_le l
  have hlt := length_trim l
  have Hlt := Lib.hid hlt; clear hlt
  go_enter Tryd.func80, Tryd.ntmps80
  go_wp2_with fail
  refine (used_any w A c l hl hr).mono ?_
  rintro e w' ⟨rfl, rfl⟩
  by_cases h0 : used l = 0
  · have Ht : Hid (trim l = []) := by apply List.eq_nil_of_length_eq_zero; rw [Hlt.out, h0]
    rw [h0]
    go_wp2
    go_ret
    exact ⟨none, 0, by rw [Ht.out]; rfl, by rw [Ht.out]; exact Nat.zero_le _, .inl ⟨rfl, Ht.out⟩, rfl⟩
  · have hne : ((used l : Int) == 0) = false := by simpa using h0
    generalize used l = u at *
    go_wp2
    go_ret
    exact ⟨A, c, by rw [Hlt.out]; rfl, by rw [Hlt.out]; omega, .inr ⟨rfl, rfl⟩, rfl⟩

theorem getD_eq {l : List Nat} {i : Nat} (h : l.length ≤ i) : nth l i = 0 := by simp [nth, List.getD, h]

set_option maxHeartbeats 400000 in
theorem reader1_any (w : World) (A : Option Addr) (c p : Nat) (l : List Nat) (i : Int) (h0 : 0 ≤ i) (_hl : l.length ≤ 9223372036854775807) (hc : w.cell? ⟨p, 0, none⟩ = some (.slice A l.length c)) (hr : Rd w .u64 A l) :
    Calls Tryd.prog 85 #[.int .i64 i, .pointer (some ⟨p, 0, none⟩)] w fun e w' => e = .returned (.int .u64 (nth l i.toNat : Nat)) ∧ w = w' := by
  have hsl := hr.sl
  have h1 := size_u64
  have Hr := Lib.hid hr; clear hr
  obtain ⟨k, rfl⟩ := Int.eq_ofNat_of_zero_le h0
  rw [Int.toNat_natCast]
  by_cases hk : k < l.length
  · have hcell := Hr.out.cell k hk
    generalize nth l k = x at *
    go_enter Tryd.func85, Tryd.ntmps85
    go_wp2
    go_ret
    exact ⟨rfl, rfl⟩
  · rw [getD_eq (by omega)]
    go_enter Tryd.func85, Tryd.ntmps85
    go_wp2
    go_ret
    exact ⟨rfl, rfl⟩

set_option maxHeartbeats 400000 in
theorem reader_any (w : World) (A : Option Addr) (c : Nat) (l : List Nat) :
    Calls Tryd.prog 78 #[.slice A l.length c] w fun e w' => e = .returned (.func (.func 85) #[] #[.pointer (some ⟨w.heap.size, 0, none⟩)]) ∧ w.alloc (.cells #[.slice A l.length c] 31) = w' := by
  go_enter Tryd.func78, Tryd.ntmps78
  go_wp2
  go_ret
  exact ⟨rfl, rfl⟩

/-- a list of digits in a new block of its own, or none -/
def RetNew (l : List Nat) (w : World) (e : Ending) (w' : World) : Prop :=
  ∃ A c, e = .returned (.slice A l.length c) ∧ (l = [] ∧ A = none ∧ c = 0 ∨ ∃ g, A = some ⟨g, 0, none⟩ ∧ c = l.length ∧ w.heap.size ≤ g ∧ Blk w' g 78 (ints .u64 l)) ∧ Below w.heap.size w w'
theorem RetNew.ret {l : List Nat} {w w' : World} {e : Ending} (h : RetNew l w e w') : RetL .u64 l w e w' := by
  obtain ⟨A, c, rfl, ho, hb⟩ := h
  rcases ho with ⟨rfl, rfl, rfl⟩ | ⟨g, rfl, rfl, hgs, hg⟩
  · exact ⟨none, 0, rfl, Nat.le_refl _, Rd.nil_ _ _, hb, Fr.none_ _ _⟩
  · exact ⟨_, _, rfl, Nat.le_refl _, Rd.of_blk hg, hb, Fr.of_blk hgs _⟩

set_option maxHeartbeats 400000 in
theorem trim_new (w : World) (A : Option Addr) (c : Nat) (l : List Nat) (hl : l.length ≤ 17592186044416) (hr : Rd w .u64 A l) :
    Calls Tryd.prog 61 #[.slice A l.length c] w (RetNew (trim l) w) := by
  have hu := used_le l
  have hlt := length_trim l
  have Hlt := Lib.hid hlt; clear hlt
  go_enter Tryd.func61, Tryd.ntmps61
  go_wp2_with fail
  refine (used_any w A c l (by omega) hr).mono ?_
  rintro e w' ⟨rfl, rfl⟩
  by_cases h0 : used l = 0
  · have Ht : Hid (trim l = []) := by apply List.eq_nil_of_length_eq_zero; rw [Hlt.out, h0]
    rw [h0]
    go_wp2
    go_ret
    exact ⟨none, 0, by rw [Ht.out]; rfl, .inl ⟨Ht.out, rfl, rfl⟩, Below.refl _ _⟩
  · have hne : ((used l : Int) == 0) = false := by simpa using h0
    have Ht : Hid (trim l = l.take (used l)) := rfl
    generalize used l = u at *
    have hmk := fun W => run_make_row' (P := Tryd.prog) 31 78 (.int .u64 0) 8 Tryd.underlying31 info_u64 rfl .i64 .i64 u (by omega) (by omega) W
    obtain ⟨w1, hcp, hb1, hg1⟩ := run_copy_ints (P := Tryd.prog) (w.alloc (.cells (madeCells #[.int .u64 0] u) 78)) 31 31 3 78 78 w.heap.size u u c u A .u64 (List.replicate u 0) l
      Tryd.underlying31 (by kernel_rfl) (by rw [← ints_made]; exact Blk.new _ _ _) (by simp) (hr.alloc _) (by omega)
    go_wp2
    go_ret
    refine ⟨some ⟨w.heap.size, 0, none⟩, u, by rw [Hlt.out]; rfl, .inr ⟨w.heap.size, rfl, Hlt.out.symm, Nat.le_refl _, ?_⟩, ?_⟩
    · rw [Ht.out]
      have e : l.take u ++ (List.replicate u 0).drop u = l.take u := by simp
      rw [e] at hb1
      exact hb1
    · exact ((Below.refl _ _).alloc (Nat.le_refl _) _).grown hg1 (by simp) (fun k hk => by cases hk; exact Nat.le_refl _)

theorem trim_any (w : World) (A : Option Addr) (c : Nat) (l : List Nat) (hl : l.length ≤ 17592186044416) (hr : Rd w .u64 A l) :
    Calls Tryd.prog 61 #[.slice A l.length c] w (RetL .u64 (trim l) w) := (trim_new w A c l hl hr).mono fun _ _ h => h.ret

/-- of a list that is read in memory: what tidy tells of it -/
theorem RetIn.rd {A : Option Addr} {c : Nat} {l : List Nat} {w w' : World} {e : Ending} {k : IntKind} (h : RetIn A c l w e w') (hr : Rd w k A l) : ∃ A' c', e = .returned (.slice A' l.length c') ∧ l.length ≤ c' ∧ (Rd w k A' l ∧ ∀ B, Fr B A l → Fr B A' l) ∧ w = w' := by
  obtain ⟨A', c', rfl, hc, ho, rfl⟩ := h
  refine ⟨A', c', rfl, hc, ?_, rfl⟩
  rcases ho with ⟨rfl, rfl⟩ | ⟨rfl, rfl⟩
  · exact ⟨Rd.nil_ _ _, fun _ _ => Fr.none_ _ _⟩
  · exact ⟨hr, fun _ h => h⟩
end Go.Proofs.YtgghdedabpohbaaDoor
