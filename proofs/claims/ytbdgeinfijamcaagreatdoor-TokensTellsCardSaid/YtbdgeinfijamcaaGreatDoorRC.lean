/-
  ratio: fractions as values; one. ratio: over, parts. ratio: parts.
-/
import Derived.Test.YtbdgeinfijamcaaGreatDoorWE
namespace Go.Proofs.YtbdgeinfijamcaaGreatDoor
open Go.RowKit

/-- what a fraction in its one form is divided by: 0 for 1 -/
def dn (q : Rat) : Int := if q.den = 1 then 0 else (q.den : Int)
/-- r is q in its one form -/
structure RatN (r : RV) (q : Rat) (w : World) : Prop where
  num : IntN r.num q.num w
  den : IntN r.den (dn q) w
/-- at most n digits of 64 bits -/
def Sz (q : Rat) (n : Nat) : Prop := q.num.natAbs < B64 ^ n ∧ q.den < B64 ^ n
theorem RatN.old {r : RV} {q : Rat} {w : World} (h : RatN r q w) : Rests w (· < w.heap.size) (RatN r q) := ⟨h, fun w' hw => ⟨h.num.old.lift w' hw, h.den.old.lift w' hw⟩⟩
/-- a fraction told, in its one form, in new memory -/
def RetR (q : Rat) (w : World) (e : Ending) (w' : World) : Prop :=
  ∃ r : RV, e = .returned (.agg #[.bool r.num.neg, .slice r.num.A r.num.k r.num.c, .bool r.den.neg, .slice r.den.A r.den.k r.den.c]) ∧ Rests w' (w.heap.size ≤ ·) (RatN r q) ∧ Below w.heap.size w w'

theorem digs_one' {x : Nat} (h0 : 0 < x) (h : x < B64) : digs B64 x = [x] := by
  have h1 := tidy_digs (b := B64) (l := [x]) (by decide) (lt_single h) (.inr ⟨x, rfl, by omega⟩)
  rw [show val B64 [x] = x by simp [val]] at h1
  exact h1.symm
theorem digs_len_one {x : Nat} (h : (digs B64 x).length = 1) : 0 < x ∧ x < B64 := by
  refine ⟨?_, ?_⟩
  · rcases Nat.eq_zero_or_pos x with rfl | h'
    · simp [digs_zero] at h
    · exact h'
  · have := lt_of_digs_length (n := x) (k := 1) (by omega)
    simpa using this

set_option maxRecDepth 100000 in
set_option maxHeartbeats 1000000 in
theorem one_neg (w : World) (A : Option Addr) (k c : Nat) (z : Int) (_h : IntN ⟨true, A, k, c⟩ z w) :
    Calls Tryz.prog 117 #[.agg #[.bool true, .slice A k c]] w fun e w' => e = .returned (.bool false) ∧ Below w.heap.size w w' := by
  have Hbel := Lib.hid (Below.of_alloc w (.cells #[.bool true, .slice A k c] 34))
  clear _h
  go_enter Tryz.func117, Tryz.ntmps117
  go_wp2_with fail
  go_ret
  exact ⟨rfl, Hbel.out⟩

set_option maxRecDepth 100000 in
set_option maxHeartbeats 1000000 in
theorem one_long (w : World) (A : Option Addr) (k c : Nat) (z : Int) (_h : IntN ⟨false, A, k, c⟩ z w) (hk : k ≠ 1) :
    Calls Tryz.prog 117 #[.agg #[.bool false, .slice A k c]] w fun e w' => e = .returned (.bool false) ∧ Below w.heap.size w w' := by
  have Hbel := Lib.hid (Below.of_alloc w (.cells #[.bool false, .slice A k c] 34))
  have hk1 : ((k : Int) == 1) = false := by simp; omega
  clear hk
  clear _h
  go_enter Tryz.func117, Tryz.ntmps117
  go_wp2_with fail
  go_ret
  exact ⟨rfl, Hbel.out⟩

set_option maxRecDepth 100000 in
set_option maxHeartbeats 1000000 in
theorem one_yes (w : World) (A : Option Addr) (k c : Nat) (z : Int) (h : IntN ⟨false, A, k, c⟩ z w) (hk : k = 1) (hz : z = 1) :
    Calls Tryz.prog 117 #[.agg #[.bool false, .slice A k c]] w fun e w' => e = .returned (.bool true) ∧ Below w.heap.size w w' := by
  have Hbel := Lib.hid (Below.of_alloc w (.cells #[.bool false, .slice A k c] 34))
  subst hk hz
  have hr := h.rd
  rw [show (1 : Int).natAbs = 1 from rfl, digs_one' (by decide) (by decide)] at hr
  have hsl : Sl A 1 := hr.sl
  have hs1 := size_u64
  have hcell : (w.alloc (.cells #[.bool false, .slice A 1 c] 34)).cell? (adr A 0) = some (.int .u64 1) := (hr.alloc _).cell 0 (by simp)
  clear hr
  clear h
  go_enter Tryz.func117, Tryz.ntmps117
  go_wp2_with fail
  go_ret
  exact ⟨rfl, Hbel.out⟩

set_option maxRecDepth 100000 in
set_option maxHeartbeats 1000000 in
theorem one_no (w : World) (A : Option Addr) (k c : Nat) (z : Int) (h : IntN ⟨false, A, k, c⟩ z w) (hk : k = 1) (hz : z ≠ 1) :
    Calls Tryz.prog 117 #[.agg #[.bool false, .slice A k c]] w fun e w' => e = .returned (.bool false) ∧ Below w.heap.size w w' := by
  have Hbel := Lib.hid (Below.of_alloc w (.cells #[.bool false, .slice A k c] 34))
  subst hk
  have hr := h.rd
  have hl := digs_len_one h.k.symm
  have hneg := h.neg
  have hx : ((z.natAbs : Int) == 1) = false := by
    have : ¬ z < 0 := by simpa using hneg.symm
    simp; omega
  rw [digs_one' hl.1 hl.2] at hr
  have hsl : Sl A 1 := hr.sl
  have hs1 := size_u64
  have hcell : (w.alloc (.cells #[.bool false, .slice A 1 c] 34)).cell? (adr A 0) = some (.int .u64 (z.natAbs : Nat)) := (hr.alloc _).cell 0 (by simp)
  clear hr hl hz hneg
  generalize z.natAbs = x at *
  clear h
  go_enter Tryz.func117, Tryz.ntmps117
  go_wp2_with fail
  go_ret
  exact ⟨rfl, Hbel.out⟩

theorem one_any (w : World) (i : IV) (z : Int) (h : IntN i z w) : Calls Tryz.prog 117 #[.agg #[.bool i.neg, .slice i.A i.k i.c]] w fun e w' => e = .returned (.bool (decide (z = 1))) ∧ Below w.heap.size w w' := by
  obtain ⟨ng, A, k, c⟩ := i
  have hneg := h.neg
  cases ng
  · by_cases hk : k = 1
    · by_cases hz : z = 1
      · rw [decide_eq_true hz]; exact one_yes w A k c z h hk hz
      · rw [decide_eq_false hz]; exact one_no w A k c z h hk hz
    · have hz : z ≠ 1 := fun e => hk (by have h5 : k = (digs B64 z.natAbs).length := h.k; rw [e] at h5; rw [h5, show (1 : Int).natAbs = 1 from rfl, digs_one' (by decide) (by decide)]; rfl)
      rw [decide_eq_false hz]; exact one_long w A k c z h hk
  · have hz : z ≠ 1 := fun e => by rw [e] at hneg; simp at hneg
    rw [decide_eq_false hz]; exact one_neg w A k c z h
end Go.Proofs.YtbdgeinfijamcaaGreatDoor
namespace Go.Proofs.YtbdgeinfijamcaaGreatDoor
open Go.RowKit

/-- two whole numbers told, that lie in blocks of F -/
def RetP (x d : Int) (N : Nat) (F : Nat → Prop) (w : World) (e : Ending) (w' : World) : Prop :=
  ∃ i j : IV, e = .returned (.tuple #[.agg #[.bool i.neg, .slice i.A i.k i.c], .agg #[.bool j.neg, .slice j.A j.k j.c]]) ∧ Rests w' F (IntD i x N) ∧ Rests w' F (IntD j d N) ∧ Below w.heap.size w w'
theorem ret2 {w w2 : World} {g g' N : Nat} {x d : Int} {i j : IV} {F G : Nat → Prop} (hb : Below w.heap.size w w2) (hg : w.heap.size ≤ g) (hg' : w.heap.size ≤ g') (hr : Rests w2 F (IntD i x N)) (hr' : Rests w2 F (IntD j d N)) (n1 : ¬ F g) (n2 : ¬ F g') (hG : ∀ b, F b → G b) :
    RetP x d N G w (.returned (.tuple #[.agg #[.bool i.neg, .slice i.A i.k i.c], .agg #[.bool j.neg, .slice j.A j.k j.c]])) ((((w2.setCell ⟨g, 0, none⟩ (.bool i.neg)).setCell ⟨g, 1, none⟩ (.slice i.A i.k i.c)).setCell ⟨g', 0, none⟩ (.bool j.neg)).setCell ⟨g', 1, none⟩ (.slice j.A j.k j.c)) :=
  ⟨i, j, rfl, ((((hr.set (a := ⟨g, 0, none⟩) n1 _).set (a := ⟨g, 1, none⟩) n1 _).set (a := ⟨g', 0, none⟩) n2 _).set (a := ⟨g', 1, none⟩) n2 _).mono hG, ((((hr'.set (a := ⟨g, 0, none⟩) n1 _).set (a := ⟨g, 1, none⟩) n1 _).set (a := ⟨g', 0, none⟩) n2 _).set (a := ⟨g', 1, none⟩) n2 _).mono hG,
    (((hb.setCell (p := ⟨g, 0, none⟩) hg _).setCell (p := ⟨g, 1, none⟩) hg _).setCell (p := ⟨g', 0, none⟩) hg' _).setCell (p := ⟨g', 1, none⟩) hg' _⟩
theorem RetP.drew {x d : Int} {N : Nat} {F : Nat → Prop} {w w' : World} {e : Ending} (h : RetP x d N F w e w') : RetP x d N F w e w'.drew := by
  obtain ⟨i, j, rfl, h1, h2, hb⟩ := h
  exact ⟨i, j, rfl, h1.drew, h2.drew, Below.drew hb⟩

set_option maxRecDepth 100000 in
set_option maxHeartbeats 2000000 in
theorem over_pos (w : World) (i j : IV) (x y : Int) (n : Nat) (F : Nat → Prop) (hF : ∀ b, F b → b < w.heap.size) (hn : n ≤ 900000000000) (_h1n : 1 ≤ n) (h : Rests w F (IntD i x n)) (h' : Rests w F (IntD j y n)) (hy : 0 < y) :
    Calls Tryz.prog 88 #[.agg #[.bool i.neg, .slice i.A i.k i.c], .agg #[.bool j.neg, .slice j.A j.k j.c]] w (RetP (x) (y) n (fun b => F b ∨ w.heap.size ≤ b) w) := by
  obtain ⟨W0, hW0⟩ : ∃ W0, W0 = ((((w.alloc (.cells #[.bool i.neg, .slice i.A i.k i.c] 34)).alloc (.cells #[.bool j.neg, .slice j.A j.k j.c] 34)).alloc (.cells #[.bool false, .slice none 0 0] 34)).alloc (.cells #[.bool false, .slice none 0 0] 34)) := ⟨_, rfl⟩
  obtain ⟨p0, p1, p2, p3, pb⟩ := lay4 hW0
  have HBa := Lib.hid p0
  have HBb := Lib.hid p1
  have HBr := Lib.hid p2
  have HBrr := Lib.hid p3
  have Hbel := Lib.hid pb
  have Hi := Lib.hid (Rests.al4 ((h.mono (G := (fun b => F b ∨ w.heap.size + 1 + 1 + 1 + 1 ≤ b)) (fun b hb => .inl hb))) hW0)
  have Hj := Lib.hid (Rests.al4 ((h'.mono (G := (fun b => F b ∨ w.heap.size + 1 + 1 + 1 + 1 ≤ b)) (fun b hb => .inl hb))) hW0)
  clear p0 p1 p2 p3 pb
  subst hW0
  have ne01 : w.heap.size ≠ w.heap.size + 1 := by omega
  have ne02 : w.heap.size ≠ w.heap.size + 1 + 1 := by omega
  have ne03 : w.heap.size ≠ w.heap.size + 1 + 1 + 1 := by omega
  have ne10 : w.heap.size + 1 ≠ w.heap.size := by omega
  have ne12 : w.heap.size + 1 ≠ w.heap.size + 1 + 1 := by omega
  have ne13 : w.heap.size + 1 ≠ w.heap.size + 1 + 1 + 1 := by omega
  have ne20 : w.heap.size + 1 + 1 ≠ w.heap.size := by omega
  have ne21 : w.heap.size + 1 + 1 ≠ w.heap.size + 1 := by omega
  have ne23 : w.heap.size + 1 + 1 ≠ w.heap.size + 1 + 1 + 1 := by omega
  have ne30 : w.heap.size + 1 + 1 + 1 ≠ w.heap.size := by omega
  have ne31 : w.heap.size + 1 + 1 + 1 ≠ w.heap.size + 1 := by omega
  have ne32 : w.heap.size + 1 + 1 + 1 ≠ w.heap.size + 1 + 1 := by omega
  have HF := Lib.hid hF
  have Hs := Lib.hid (Int.sign_eq_one_of_pos hy)
  clear h h' hF hy
  go_enter Tryz.func88, Tryz.ntmps88
  go_wp2_with fail
  refine (wsign_any _ j y n hn (by first | exact Hj.out.now | exact Hj.out.drew.now)).mono ?_
  rintro e w1 ⟨rfl, hb1⟩
  replace HBa := Lib.hid (Blk.below (by exact HBa.out) hb1 (by exact HBa.out.lt))
  obtain ⟨sw1HBa0, sw1HBa1⟩ := Blk.c2 HBa.out
  replace HBb := Lib.hid (Blk.below (by exact HBb.out) hb1 (by exact HBb.out.lt))
  obtain ⟨sw1HBb0, sw1HBb1⟩ := Blk.c2 HBb.out
  replace HBr := Lib.hid (Blk.below (by exact HBr.out) hb1 (by exact HBr.out.lt))
  obtain ⟨sw1HBr0, sw1HBr1⟩ := Blk.c2 HBr.out
  obtain ⟨fw1HBr0, fw1HBr1⟩ := Blk.f2 HBr.out
  replace HBrr := Lib.hid (Blk.below (by exact HBrr.out) hb1 (by exact HBrr.out.lt))
  obtain ⟨sw1HBrr0, sw1HBrr1⟩ := Blk.c2 HBrr.out
  obtain ⟨fw1HBrr0, fw1HBrr1⟩ := Blk.f2 HBrr.out
  replace Hi := Lib.hid (Rests.below (φ := IntD i x n) (by first | exact Hi.out | exact Hi.out.drew) hb1)
  replace Hj := Lib.hid (Rests.below (φ := IntD j y n) (by first | exact Hj.out | exact Hj.out.drew) hb1)
  replace Hbel := Lib.hid (Below.after (by first | exact Hbel.out | exact Below.drew Hbel.out) hb1)
  clear hb1
  rw [Hs.out]
  go_wp2_with fail
  go_region_held3 (fun W => W.cell? ⟨w.heap.size, 0, none⟩ = some (.bool i.neg) ∧ W.cell? ⟨w.heap.size, 1, none⟩ = some (.slice i.A i.k i.c) ∧ W.cell? ⟨w.heap.size + 1, 0, none⟩ = some (.bool j.neg) ∧ W.cell? ⟨w.heap.size + 1, 1, none⟩ = some (.slice j.A j.k j.c)) (go_keep) (fail)
  all_goals
    go_wp2_with fail
    have hfin := (ret2 (g := w.heap.size + 1 + 1) (g' := w.heap.size + 1 + 1 + 1) (w2 := w1) (F := (fun b => F b ∨ w.heap.size + 1 + 1 + 1 + 1 ≤ b)) (G := (fun b => F b ∨ w.heap.size ≤ b)) Hbel.out (by omega) (by omega) Hi.out Hj.out (fun h => by rcases h with h | h; (have := HF.out _ h; omega); omega) (fun h => by rcases h with h | h; (have := HF.out _ h; omega); omega) (fun b hb => by rcases hb with hb | hb; exact .inl hb; exact .inr (by show w.heap.size ≤ b; omega))).drew
    obtain ⟨b1, b2⟩ := box22 HBr.out HBrr.out (by omega) (.bool i.neg) (.slice i.A i.k i.c) (.bool j.neg) (.slice j.A j.k j.c)
    have q0 : World.cell? (((((w1.setCell ⟨w.heap.size + 1 + 1, 0, none⟩ (.bool i.neg)).setCell ⟨w.heap.size + 1 + 1, 1, none⟩ (.slice i.A i.k i.c)).setCell ⟨w.heap.size + 1 + 1 + 1, 0, none⟩ (.bool j.neg)).setCell ⟨w.heap.size + 1 + 1 + 1, 1, none⟩ (.slice j.A j.k j.c)).drew) ⟨w.heap.size + 1 + 1, 0, none⟩ = some (.bool i.neg) := b1.cell 0
    have q1 : World.cell? (((((w1.setCell ⟨w.heap.size + 1 + 1, 0, none⟩ (.bool i.neg)).setCell ⟨w.heap.size + 1 + 1, 1, none⟩ (.slice i.A i.k i.c)).setCell ⟨w.heap.size + 1 + 1 + 1, 0, none⟩ (.bool j.neg)).setCell ⟨w.heap.size + 1 + 1 + 1, 1, none⟩ (.slice j.A j.k j.c)).drew) ⟨w.heap.size + 1 + 1, 1, none⟩ = some (.slice i.A i.k i.c) := b1.cell 1
    have q2 : World.cell? (((((w1.setCell ⟨w.heap.size + 1 + 1, 0, none⟩ (.bool i.neg)).setCell ⟨w.heap.size + 1 + 1, 1, none⟩ (.slice i.A i.k i.c)).setCell ⟨w.heap.size + 1 + 1 + 1, 0, none⟩ (.bool j.neg)).setCell ⟨w.heap.size + 1 + 1 + 1, 1, none⟩ (.slice j.A j.k j.c)).drew) ⟨w.heap.size + 1 + 1 + 1, 0, none⟩ = some (.bool j.neg) := b2.cell 0
    have q3 : World.cell? (((((w1.setCell ⟨w.heap.size + 1 + 1, 0, none⟩ (.bool i.neg)).setCell ⟨w.heap.size + 1 + 1, 1, none⟩ (.slice i.A i.k i.c)).setCell ⟨w.heap.size + 1 + 1 + 1, 0, none⟩ (.bool j.neg)).setCell ⟨w.heap.size + 1 + 1 + 1, 1, none⟩ (.slice j.A j.k j.c)).drew) ⟨w.heap.size + 1 + 1 + 1, 1, none⟩ = some (.slice j.A j.k j.c) := b2.cell 1
    clear b1 b2 HBr HBrr Hbel
    generalize ((((w1.setCell ⟨w.heap.size + 1 + 1, 0, none⟩ (.bool i.neg)).setCell ⟨w.heap.size + 1 + 1, 1, none⟩ (.slice i.A i.k i.c)).setCell ⟨w.heap.size + 1 + 1 + 1, 0, none⟩ (.bool j.neg)).setCell ⟨w.heap.size + 1 + 1 + 1, 1, none⟩ (.slice j.A j.k j.c)).drew = W at *
    exact bodyPost_ret (v := .tuple #[.agg #[.bool i.neg, .slice i.A i.k i.c], .agg #[.bool j.neg, .slice j.A j.k j.c]]) (by simp [results, Tryz.results88, go_sem, q0, q1, q2, q3]) rfl hfin

set_option maxRecDepth 100000 in
set_option maxHeartbeats 2000000 in
theorem over_neg (w : World) (i j : IV) (x y : Int) (n : Nat) (F : Nat → Prop) (hF : ∀ b, F b → b < w.heap.size) (hn : n ≤ 900000000000) (_h1n : 1 ≤ n) (h : Rests w F (IntD i x n)) (h' : Rests w F (IntD j y n)) (hy : y < 0) :
    Calls Tryz.prog 88 #[.agg #[.bool i.neg, .slice i.A i.k i.c], .agg #[.bool j.neg, .slice j.A j.k j.c]] w (RetP (-x) (-y) n (fun b => F b ∨ w.heap.size ≤ b) w) := by
  obtain ⟨W0, hW0⟩ : ∃ W0, W0 = ((((w.alloc (.cells #[.bool i.neg, .slice i.A i.k i.c] 34)).alloc (.cells #[.bool j.neg, .slice j.A j.k j.c] 34)).alloc (.cells #[.bool false, .slice none 0 0] 34)).alloc (.cells #[.bool false, .slice none 0 0] 34)) := ⟨_, rfl⟩
  obtain ⟨p0, p1, p2, p3, pb⟩ := lay4 hW0
  have HBa := Lib.hid p0
  have HBb := Lib.hid p1
  have HBr := Lib.hid p2
  have HBrr := Lib.hid p3
  have Hbel := Lib.hid pb
  have Hi := Lib.hid (Rests.al4 ((h.mono (G := (fun b => F b ∨ w.heap.size + 1 + 1 + 1 + 1 ≤ b)) (fun b hb => .inl hb))) hW0)
  have Hj := Lib.hid (Rests.al4 ((h'.mono (G := (fun b => F b ∨ w.heap.size + 1 + 1 + 1 + 1 ≤ b)) (fun b hb => .inl hb))) hW0)
  clear p0 p1 p2 p3 pb
  subst hW0
  have ne01 : w.heap.size ≠ w.heap.size + 1 := by omega
  have ne02 : w.heap.size ≠ w.heap.size + 1 + 1 := by omega
  have ne03 : w.heap.size ≠ w.heap.size + 1 + 1 + 1 := by omega
  have ne10 : w.heap.size + 1 ≠ w.heap.size := by omega
  have ne12 : w.heap.size + 1 ≠ w.heap.size + 1 + 1 := by omega
  have ne13 : w.heap.size + 1 ≠ w.heap.size + 1 + 1 + 1 := by omega
  have ne20 : w.heap.size + 1 + 1 ≠ w.heap.size := by omega
  have ne21 : w.heap.size + 1 + 1 ≠ w.heap.size + 1 := by omega
  have ne23 : w.heap.size + 1 + 1 ≠ w.heap.size + 1 + 1 + 1 := by omega
  have ne30 : w.heap.size + 1 + 1 + 1 ≠ w.heap.size := by omega
  have ne31 : w.heap.size + 1 + 1 + 1 ≠ w.heap.size + 1 := by omega
  have ne32 : w.heap.size + 1 + 1 + 1 ≠ w.heap.size + 1 + 1 := by omega
  have HF := Lib.hid hF
  have Hs := Lib.hid (Int.sign_eq_neg_one_of_neg hy)
  have HLi := Lib.hid h.now.lt
  have HLj := Lib.hid h'.now.lt
  clear h h' hF hy
  go_enter Tryz.func88, Tryz.ntmps88
  go_wp2_with fail
  refine (wsign_any _ j y n hn (by first | exact Hj.out.now | exact Hj.out.drew.now)).mono ?_
  rintro e w1 ⟨rfl, hb1⟩
  replace HBa := Lib.hid (Blk.below (by exact HBa.out) hb1 (by exact HBa.out.lt))
  obtain ⟨sw1HBa0, sw1HBa1⟩ := Blk.c2 HBa.out
  replace HBb := Lib.hid (Blk.below (by exact HBb.out) hb1 (by exact HBb.out.lt))
  obtain ⟨sw1HBb0, sw1HBb1⟩ := Blk.c2 HBb.out
  replace HBr := Lib.hid (Blk.below (by exact HBr.out) hb1 (by exact HBr.out.lt))
  obtain ⟨sw1HBr0, sw1HBr1⟩ := Blk.c2 HBr.out
  obtain ⟨fw1HBr0, fw1HBr1⟩ := Blk.f2 HBr.out
  replace HBrr := Lib.hid (Blk.below (by exact HBrr.out) hb1 (by exact HBrr.out.lt))
  obtain ⟨sw1HBrr0, sw1HBrr1⟩ := Blk.c2 HBrr.out
  obtain ⟨fw1HBrr0, fw1HBrr1⟩ := Blk.f2 HBrr.out
  replace Hi := Lib.hid (Rests.below (φ := IntD i x n) (by first | exact Hi.out | exact Hi.out.drew) hb1)
  replace Hj := Lib.hid (Rests.below (φ := IntD j y n) (by first | exact Hj.out | exact Hj.out.drew) hb1)
  replace Hbel := Lib.hid (Below.after (by first | exact Hbel.out | exact Below.drew Hbel.out) hb1)
  clear hb1
  rw [Hs.out]
  go_wp2_with fail
  go_region_held3 (fun W => W.cell? ⟨w.heap.size, 0, none⟩ = some (.bool i.neg) ∧ W.cell? ⟨w.heap.size, 1, none⟩ = some (.slice i.A i.k i.c) ∧ W.cell? ⟨w.heap.size + 1, 0, none⟩ = some (.bool j.neg) ∧ W.cell? ⟨w.heap.size + 1, 1, none⟩ = some (.slice j.A j.k j.c)) (go_keep)
    (first
      | (go_at_call_of 91 (Value.agg #[.bool i.neg, .slice i.A i.k i.c]); go_must (refine (wneg_any _ i x n hn (by first | exact Hi.out.now | exact Hi.out.drew.now)).mono ?_; rintro e w2 ⟨ki, rfl, hki, hbw2⟩; have hgl := HBrr.out.lt; replace HBa := Lib.hid (Blk.below (by exact HBa.out) hbw2 (by exact HBa.out.lt)); obtain ⟨sw2HBa0, sw2HBa1⟩ := Blk.c2 HBa.out; replace HBb := Lib.hid (Blk.below (by exact HBb.out) hbw2 (by exact HBb.out.lt)); obtain ⟨sw2HBb0, sw2HBb1⟩ := Blk.c2 HBb.out; replace HBr := Lib.hid (Blk.below (by exact HBr.out) hbw2 (by exact HBr.out.lt)); obtain ⟨sw2HBr0, sw2HBr1⟩ := Blk.c2 HBr.out; obtain ⟨fw2HBr0, fw2HBr1⟩ := Blk.f2 HBr.out; replace HBrr := Lib.hid (Blk.below (by exact HBrr.out) hbw2 (by exact HBrr.out.lt)); obtain ⟨sw2HBrr0, sw2HBrr1⟩ := Blk.c2 HBrr.out; obtain ⟨fw2HBrr0, fw2HBrr1⟩ := Blk.f2 HBrr.out; replace Hi := Lib.hid (Rests.below (φ := IntD i x n) (by first | exact Hi.out | exact Hi.out.drew) hbw2); replace Hj := Lib.hid (Rests.below (φ := IntD j y n) (by first | exact Hj.out | exact Hj.out.drew) hbw2); replace Hbel := Lib.hid (Below.after (by first | exact Hbel.out | exact Below.drew Hbel.out) hbw2); have Hki := Lib.hid (hki.imp (ψ := IntD ki (-x) n) (fun W hW => hW.ofLt (by rw [Int.natAbs_neg] <;> exact HLi.out)) |>.mono (G := (fun b => F b ∨ w.heap.size + 1 + 1 + 1 + 1 ≤ b)) (fun b hb => .inr (Nat.le_trans hgl hb))); clear hki hgl; try replace Hkj := Lib.hid (Rests.below (φ := IntD kj (-y) n) (by first | exact Hkj.out | exact Hkj.out.drew) hbw2); clear hbw2))
      | (go_at_call_of 91 (Value.agg #[.bool j.neg, .slice j.A j.k j.c]); go_must (refine (wneg_any _ j y n hn (by first | exact Hj.out.now | exact Hj.out.drew.now)).mono ?_; rintro e w3 ⟨kj, rfl, hkj, hbw3⟩; have hgl := HBrr.out.lt; replace HBa := Lib.hid (Blk.below (by exact HBa.out) hbw3 (by exact HBa.out.lt)); obtain ⟨sw3HBa0, sw3HBa1⟩ := Blk.c2 HBa.out; replace HBb := Lib.hid (Blk.below (by exact HBb.out) hbw3 (by exact HBb.out.lt)); obtain ⟨sw3HBb0, sw3HBb1⟩ := Blk.c2 HBb.out; replace HBr := Lib.hid (Blk.below (by exact HBr.out) hbw3 (by exact HBr.out.lt)); obtain ⟨sw3HBr0, sw3HBr1⟩ := Blk.c2 HBr.out; obtain ⟨fw3HBr0, fw3HBr1⟩ := Blk.f2 HBr.out; replace HBrr := Lib.hid (Blk.below (by exact HBrr.out) hbw3 (by exact HBrr.out.lt)); obtain ⟨sw3HBrr0, sw3HBrr1⟩ := Blk.c2 HBrr.out; obtain ⟨fw3HBrr0, fw3HBrr1⟩ := Blk.f2 HBrr.out; replace Hi := Lib.hid (Rests.below (φ := IntD i x n) (by first | exact Hi.out | exact Hi.out.drew) hbw3); replace Hj := Lib.hid (Rests.below (φ := IntD j y n) (by first | exact Hj.out | exact Hj.out.drew) hbw3); replace Hbel := Lib.hid (Below.after (by first | exact Hbel.out | exact Below.drew Hbel.out) hbw3); have Hkj := Lib.hid (hkj.imp (ψ := IntD kj (-y) n) (fun W hW => hW.ofLt (by rw [Int.natAbs_neg] <;> exact HLj.out)) |>.mono (G := (fun b => F b ∨ w.heap.size + 1 + 1 + 1 + 1 ≤ b)) (fun b hb => .inr (Nat.le_trans hgl hb))); clear hkj hgl; try replace Hki := Lib.hid (Rests.below (φ := IntD ki (-x) n) (by first | exact Hki.out | exact Hki.out.drew) hbw3); clear hbw3)))
  all_goals
    go_wp2_with fail
    have hfin := ret2 (g := w.heap.size + 1 + 1) (g' := w.heap.size + 1 + 1 + 1) (w2 := w3) (F := (fun b => F b ∨ w.heap.size + 1 + 1 + 1 + 1 ≤ b)) (G := (fun b => F b ∨ w.heap.size ≤ b)) Hbel.out (by omega) (by omega) Hki.out Hkj.out (fun h => by rcases h with h | h; (have := HF.out _ h; omega); omega) (fun h => by rcases h with h | h; (have := HF.out _ h; omega); omega) (fun b hb => by rcases hb with hb | hb; exact .inl hb; exact .inr (by show w.heap.size ≤ b; omega))
    obtain ⟨b1, b2⟩ := box22 HBr.out HBrr.out (by omega) (.bool ki.neg) (.slice ki.A ki.k ki.c) (.bool kj.neg) (.slice kj.A kj.k kj.c)
    have q0 : World.cell? (((((w3.setCell ⟨w.heap.size + 1 + 1, 0, none⟩ (.bool ki.neg)).setCell ⟨w.heap.size + 1 + 1, 1, none⟩ (.slice ki.A ki.k ki.c)).setCell ⟨w.heap.size + 1 + 1 + 1, 0, none⟩ (.bool kj.neg)).setCell ⟨w.heap.size + 1 + 1 + 1, 1, none⟩ (.slice kj.A kj.k kj.c))) ⟨w.heap.size + 1 + 1, 0, none⟩ = some (.bool ki.neg) := b1.cell 0
    have q1 : World.cell? (((((w3.setCell ⟨w.heap.size + 1 + 1, 0, none⟩ (.bool ki.neg)).setCell ⟨w.heap.size + 1 + 1, 1, none⟩ (.slice ki.A ki.k ki.c)).setCell ⟨w.heap.size + 1 + 1 + 1, 0, none⟩ (.bool kj.neg)).setCell ⟨w.heap.size + 1 + 1 + 1, 1, none⟩ (.slice kj.A kj.k kj.c))) ⟨w.heap.size + 1 + 1, 1, none⟩ = some (.slice ki.A ki.k ki.c) := b1.cell 1
    have q2 : World.cell? (((((w3.setCell ⟨w.heap.size + 1 + 1, 0, none⟩ (.bool ki.neg)).setCell ⟨w.heap.size + 1 + 1, 1, none⟩ (.slice ki.A ki.k ki.c)).setCell ⟨w.heap.size + 1 + 1 + 1, 0, none⟩ (.bool kj.neg)).setCell ⟨w.heap.size + 1 + 1 + 1, 1, none⟩ (.slice kj.A kj.k kj.c))) ⟨w.heap.size + 1 + 1 + 1, 0, none⟩ = some (.bool kj.neg) := b2.cell 0
    have q3 : World.cell? (((((w3.setCell ⟨w.heap.size + 1 + 1, 0, none⟩ (.bool ki.neg)).setCell ⟨w.heap.size + 1 + 1, 1, none⟩ (.slice ki.A ki.k ki.c)).setCell ⟨w.heap.size + 1 + 1 + 1, 0, none⟩ (.bool kj.neg)).setCell ⟨w.heap.size + 1 + 1 + 1, 1, none⟩ (.slice kj.A kj.k kj.c))) ⟨w.heap.size + 1 + 1 + 1, 1, none⟩ = some (.slice kj.A kj.k kj.c) := b2.cell 1
    clear b1 b2 HBr HBrr Hbel
    generalize ((((w3.setCell ⟨w.heap.size + 1 + 1, 0, none⟩ (.bool ki.neg)).setCell ⟨w.heap.size + 1 + 1, 1, none⟩ (.slice ki.A ki.k ki.c)).setCell ⟨w.heap.size + 1 + 1 + 1, 0, none⟩ (.bool kj.neg)).setCell ⟨w.heap.size + 1 + 1 + 1, 1, none⟩ (.slice kj.A kj.k kj.c)) = W at *
    exact bodyPost_ret (v := .tuple #[.agg #[.bool ki.neg, .slice ki.A ki.k ki.c], .agg #[.bool kj.neg, .slice kj.A kj.k kj.c]]) (by simp [results, Tryz.results88, go_sem, q0, q1, q2, q3]) rfl hfin

set_option maxRecDepth 100000 in
set_option maxHeartbeats 2000000 in
theorem over_zero (w : World) (i j : IV) (x y : Int) (n : Nat) (F : Nat → Prop) (hF : ∀ b, F b → b < w.heap.size) (hn : n ≤ 900000000000) (h1n : 1 ≤ n) (h : Rests w F (IntD i x n)) (h' : Rests w F (IntD j y n)) (hy : y = 0) :
    Calls Tryz.prog 88 #[.agg #[.bool i.neg, .slice i.A i.k i.c], .agg #[.bool j.neg, .slice j.A j.k j.c]] w (RetP (0) (1) n (fun b => F b ∨ w.heap.size ≤ b) w) := by
  obtain ⟨W0, hW0⟩ : ∃ W0, W0 = ((((w.alloc (.cells #[.bool i.neg, .slice i.A i.k i.c] 34)).alloc (.cells #[.bool j.neg, .slice j.A j.k j.c] 34)).alloc (.cells #[.bool false, .slice none 0 0] 34)).alloc (.cells #[.bool false, .slice none 0 0] 34)) := ⟨_, rfl⟩
  obtain ⟨p0, p1, p2, p3, pb⟩ := lay4 hW0
  have HBa := Lib.hid p0
  have HBb := Lib.hid p1
  have HBr := Lib.hid p2
  have HBrr := Lib.hid p3
  have Hbel := Lib.hid pb
  have Hi := Lib.hid (Rests.al4 ((h.mono (G := (fun b => F b ∨ w.heap.size + 1 + 1 + 1 + 1 ≤ b)) (fun b hb => .inl hb))) hW0)
  have Hj := Lib.hid (Rests.al4 ((h'.mono (G := (fun b => F b ∨ w.heap.size + 1 + 1 + 1 + 1 ≤ b)) (fun b hb => .inl hb))) hW0)
  clear p0 p1 p2 p3 pb
  subst hW0
  have ne01 : w.heap.size ≠ w.heap.size + 1 := by omega
  have ne02 : w.heap.size ≠ w.heap.size + 1 + 1 := by omega
  have ne03 : w.heap.size ≠ w.heap.size + 1 + 1 + 1 := by omega
  have ne10 : w.heap.size + 1 ≠ w.heap.size := by omega
  have ne12 : w.heap.size + 1 ≠ w.heap.size + 1 + 1 := by omega
  have ne13 : w.heap.size + 1 ≠ w.heap.size + 1 + 1 + 1 := by omega
  have ne20 : w.heap.size + 1 + 1 ≠ w.heap.size := by omega
  have ne21 : w.heap.size + 1 + 1 ≠ w.heap.size + 1 := by omega
  have ne23 : w.heap.size + 1 + 1 ≠ w.heap.size + 1 + 1 + 1 := by omega
  have ne30 : w.heap.size + 1 + 1 + 1 ≠ w.heap.size := by omega
  have ne31 : w.heap.size + 1 + 1 + 1 ≠ w.heap.size + 1 := by omega
  have ne32 : w.heap.size + 1 + 1 + 1 ≠ w.heap.size + 1 + 1 := by omega
  have HF := Lib.hid hF
  have Hs := Lib.hid (show y.sign = 0 by rw [hy]; rfl)
  clear h h' hF hy
  go_enter Tryz.func88, Tryz.ntmps88
  go_wp2_with fail
  refine (wsign_any _ j y n hn (by first | exact Hj.out.now | exact Hj.out.drew.now)).mono ?_
  rintro e w1 ⟨rfl, hb1⟩
  replace HBa := Lib.hid (Blk.below (by exact HBa.out) hb1 (by exact HBa.out.lt))
  obtain ⟨sw1HBa0, sw1HBa1⟩ := Blk.c2 HBa.out
  replace HBb := Lib.hid (Blk.below (by exact HBb.out) hb1 (by exact HBb.out.lt))
  obtain ⟨sw1HBb0, sw1HBb1⟩ := Blk.c2 HBb.out
  replace HBr := Lib.hid (Blk.below (by exact HBr.out) hb1 (by exact HBr.out.lt))
  obtain ⟨sw1HBr0, sw1HBr1⟩ := Blk.c2 HBr.out
  obtain ⟨fw1HBr0, fw1HBr1⟩ := Blk.f2 HBr.out
  replace HBrr := Lib.hid (Blk.below (by exact HBrr.out) hb1 (by exact HBrr.out.lt))
  obtain ⟨sw1HBrr0, sw1HBrr1⟩ := Blk.c2 HBrr.out
  obtain ⟨fw1HBrr0, fw1HBrr1⟩ := Blk.f2 HBrr.out
  replace Hi := Lib.hid (Rests.below (φ := IntD i x n) (by first | exact Hi.out | exact Hi.out.drew) hb1)
  replace Hj := Lib.hid (Rests.below (φ := IntD j y n) (by first | exact Hj.out | exact Hj.out.drew) hb1)
  replace Hbel := Lib.hid (Below.after (by first | exact Hbel.out | exact Below.drew Hbel.out) hb1)
  clear hb1
  rw [Hs.out]
  go_wp2_with fail
  refine (wof_any _ 1 (by decide) (by decide)).mono ?_
  rintro e w2 ⟨k, rfl, hk, hb2⟩
  have hgl := HBrr.out.lt
  replace HBa := Lib.hid (Blk.below (by exact HBa.out) hb2 (by exact HBa.out.lt))
  obtain ⟨sw2HBa0, sw2HBa1⟩ := Blk.c2 HBa.out
  replace HBb := Lib.hid (Blk.below (by exact HBb.out) hb2 (by exact HBb.out.lt))
  obtain ⟨sw2HBb0, sw2HBb1⟩ := Blk.c2 HBb.out
  replace HBr := Lib.hid (Blk.below (by exact HBr.out) hb2 (by exact HBr.out.lt))
  obtain ⟨sw2HBr0, sw2HBr1⟩ := Blk.c2 HBr.out
  obtain ⟨fw2HBr0, fw2HBr1⟩ := Blk.f2 HBr.out
  replace HBrr := Lib.hid (Blk.below (by exact HBrr.out) hb2 (by exact HBrr.out.lt))
  obtain ⟨sw2HBrr0, sw2HBrr1⟩ := Blk.c2 HBrr.out
  obtain ⟨fw2HBrr0, fw2HBrr1⟩ := Blk.f2 HBrr.out
  replace Hi := Lib.hid (Rests.below (φ := IntD i x n) (by first | exact Hi.out | exact Hi.out.drew) hb2)
  replace Hj := Lib.hid (Rests.below (φ := IntD j y n) (by first | exact Hj.out | exact Hj.out.drew) hb2)
  replace Hbel := Lib.hid (Below.after (by first | exact Hbel.out | exact Below.drew Hbel.out) hb2)
  have Hk := Lib.hid (hk.imp (ψ := IntD k 1 n) (fun W hW => hW.ofLt (Nat.lt_of_lt_of_le (show (1 : Int).natAbs < B64 ^ 1 by decide) (Nat.pow_le_pow_right B64_pos h1n))) |>.mono (G := (fun b => F b ∨ w.heap.size + 1 + 1 + 1 + 1 ≤ b)) (fun b hb => .inr (Nat.le_trans hgl hb)))
  clear hk hgl
  clear hb2
  go_wp2_with fail
  have hfin := ret2 (i := ⟨false, none, 0, 0⟩) (g := w.heap.size + 1 + 1) (g' := w.heap.size + 1 + 1 + 1) (w2 := w2) (x := 0) (F := (fun b => F b ∨ w.heap.size + 1 + 1 + 1 + 1 ≤ b)) (G := (fun b => F b ∨ w.heap.size ≤ b)) Hbel.out (by omega) (by omega) (Rests.imp (Rests.pure (p := True) trivial w2 _) (fun W _ => ⟨⟨[], rfl, Rd.nil_ _ _, by simp, rfl⟩, Nat.le_refl _, Nat.zero_le _⟩)) Hk.out (fun h => by rcases h with h | h; (have := HF.out _ h; omega); omega) (fun h => by rcases h with h | h; (have := HF.out _ h; omega); omega) (fun b hb => by rcases hb with hb | hb; exact .inl hb; exact .inr (by show w.heap.size ≤ b; omega))
  obtain ⟨b1, b2⟩ := box22 HBr.out HBrr.out (by omega) (.bool false) (.slice none 0 0) (.bool k.neg) (.slice k.A k.k k.c)
  have q0 : World.cell? (((((w2.setCell ⟨w.heap.size + 1 + 1, 0, none⟩ (.bool false)).setCell ⟨w.heap.size + 1 + 1, 1, none⟩ (.slice none 0 0)).setCell ⟨w.heap.size + 1 + 1 + 1, 0, none⟩ (.bool k.neg)).setCell ⟨w.heap.size + 1 + 1 + 1, 1, none⟩ (.slice k.A k.k k.c))) ⟨w.heap.size + 1 + 1, 0, none⟩ = some (.bool false) := b1.cell 0
  have q1 : World.cell? (((((w2.setCell ⟨w.heap.size + 1 + 1, 0, none⟩ (.bool false)).setCell ⟨w.heap.size + 1 + 1, 1, none⟩ (.slice none 0 0)).setCell ⟨w.heap.size + 1 + 1 + 1, 0, none⟩ (.bool k.neg)).setCell ⟨w.heap.size + 1 + 1 + 1, 1, none⟩ (.slice k.A k.k k.c))) ⟨w.heap.size + 1 + 1, 1, none⟩ = some (.slice none 0 0) := b1.cell 1
  have q2 : World.cell? (((((w2.setCell ⟨w.heap.size + 1 + 1, 0, none⟩ (.bool false)).setCell ⟨w.heap.size + 1 + 1, 1, none⟩ (.slice none 0 0)).setCell ⟨w.heap.size + 1 + 1 + 1, 0, none⟩ (.bool k.neg)).setCell ⟨w.heap.size + 1 + 1 + 1, 1, none⟩ (.slice k.A k.k k.c))) ⟨w.heap.size + 1 + 1 + 1, 0, none⟩ = some (.bool k.neg) := b2.cell 0
  have q3 : World.cell? (((((w2.setCell ⟨w.heap.size + 1 + 1, 0, none⟩ (.bool false)).setCell ⟨w.heap.size + 1 + 1, 1, none⟩ (.slice none 0 0)).setCell ⟨w.heap.size + 1 + 1 + 1, 0, none⟩ (.bool k.neg)).setCell ⟨w.heap.size + 1 + 1 + 1, 1, none⟩ (.slice k.A k.k k.c))) ⟨w.heap.size + 1 + 1 + 1, 1, none⟩ = some (.slice k.A k.k k.c) := b2.cell 1
  clear b1 b2 HBr HBrr Hbel
  generalize ((((w2.setCell ⟨w.heap.size + 1 + 1, 0, none⟩ (.bool false)).setCell ⟨w.heap.size + 1 + 1, 1, none⟩ (.slice none 0 0)).setCell ⟨w.heap.size + 1 + 1 + 1, 0, none⟩ (.bool k.neg)).setCell ⟨w.heap.size + 1 + 1 + 1, 1, none⟩ (.slice k.A k.k k.c)) = W at *
  exact bodyPost_ret (v := .tuple #[.agg #[.bool false, .slice none 0 0], .agg #[.bool k.neg, .slice k.A k.k k.c]]) (by simp [results, Tryz.results88, go_sem, q0, q1, q2, q3]) rfl hfin

/-- what over tells: a number, and one above 0 -/
def ovN (x y : Int) : Int := if y = 0 then 0 else if y < 0 then -x else x
def ovD (y : Int) : Int := if y = 0 then 1 else if y < 0 then -y else y
theorem ovD_pos (y : Int) : 0 < ovD y := by unfold ovD; split; omega; split <;> omega
theorem ov_eq (x y : Int) : Rat.divInt (ovN x y) (ovD y) = Rat.divInt x y := by
  unfold ovN ovD
  split
  · rename_i h; subst h; simp
  · split
    · exact Rat.neg_divInt_neg x y
    · rfl
theorem over_any (w : World) (i j : IV) (x y : Int) (n : Nat) (F : Nat → Prop) (hF : ∀ b, F b → b < w.heap.size) (hn : n ≤ 900000000000) (h1n : 1 ≤ n) (h : Rests w F (IntD i x n)) (h' : Rests w F (IntD j y n)) :
    Calls Tryz.prog 88 #[.agg #[.bool i.neg, .slice i.A i.k i.c], .agg #[.bool j.neg, .slice j.A j.k j.c]] w (RetP (ovN x y) (ovD y) n (fun b => F b ∨ w.heap.size ≤ b) w) := by
  unfold ovN ovD
  by_cases h0 : y = 0
  · rw [if_pos h0, if_pos h0]; exact over_zero w i j x y n F hF hn h1n h h' h0
  · rw [if_neg h0, if_neg h0]
    by_cases hl : y < 0
    · rw [if_pos hl, if_pos hl]; exact over_neg w i j x y n F hF hn h1n h h' hl
    · rw [if_neg hl, if_neg hl]; exact over_pos w i j x y n F hF hn h1n h h' (by omega)
end Go.Proofs.YtbdgeinfijamcaaGreatDoor
namespace Go.Proofs.YtbdgeinfijamcaaGreatDoor
open Go.RowKit

end Go.Proofs.YtbdgeinfijamcaaGreatDoor
