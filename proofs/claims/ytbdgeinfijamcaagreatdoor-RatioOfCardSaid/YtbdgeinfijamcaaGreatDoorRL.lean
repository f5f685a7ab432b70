/-
  ratio: Div.
-/
import Derived.Test.YtbdgeinfijamcaaGreatDoorRJ
namespace Go.Proofs.YtbdgeinfijamcaaGreatDoor
open Go.RowKit

theorem zeroN (w : World) (F : Nat → Prop) : Rests w F (IntN ⟨false, none, 0, 0⟩ 0) :=
  ⟨⟨rfl, Nat.le_refl _, rfl, Rd.nil_ _ _⟩, fun _ _ => ⟨rfl, Nat.le_refl _, rfl, Rd.nil_ _ _⟩⟩
def zeroR : RV := ⟨⟨false, none, 0, 0⟩, ⟨false, none, 0, 0⟩⟩
def RetRE (q : Rat) (k : Int) (w : World) (e : Ending) (w' : World) : Prop :=
  ∃ r : RV, e = .returned (.tuple #[.agg #[.bool r.num.neg, .slice r.num.A r.num.k r.num.c, .bool r.den.neg, .slice r.den.A r.den.k r.den.c], .int .i64 k]) ∧ Rests w' (w.heap.size ≤ ·) (RatN r q) ∧ Below w.heap.size w w'
theorem RetRE.of {q : Rat} {k : Int} {w w' : World} {r : RV} (h : RetR q w (.returned (.agg #[.bool r.num.neg, .slice r.num.A r.num.k r.num.c, .bool r.den.neg, .slice r.den.A r.den.k r.den.c])) w') :
    RetRE q k w (.returned (.tuple #[.agg #[.bool r.num.neg, .slice r.num.A r.num.k r.num.c, .bool r.den.neg, .slice r.den.A r.den.k r.den.c], .int .i64 k])) w' := by
  obtain ⟨r', e, h1, h2⟩ := h
  have e' : r = r' := by
    obtain ⟨⟨a1, a2, a3, a4⟩, ⟨b1, b2, b3, b4⟩⟩ := r
    obtain ⟨⟨c1, c2, c3, c4⟩, ⟨d1, d2, d3, d4⟩⟩ := r'
    simp at e
    simp [e]
  subst e'
  exact ⟨r, rfl, h1, h2⟩

set_option maxRecDepth 100000 in
set_option maxHeartbeats 1000000 in
theorem rdiv_zero (w : World) (r s : RV) (a b : Rat) (n : Nat) (hn : n ≤ 400000000000) (_h1n : 1 ≤ n) (h : RatD r a n w) (h' : RatD s b n w) (hT : Tz w) (hc : b.num.sign = 0) :
    Calls Tryz.prog 21 #[.agg #[.bool r.num.neg, .slice r.num.A r.num.k r.num.c, .bool r.den.neg, .slice r.den.A r.den.k r.den.c], .agg #[.bool s.num.neg, .slice s.num.A s.num.k s.num.c, .bool s.den.neg, .slice s.den.A s.den.k s.den.c]] w (RetRE (a / b) 10 w) := by
  have Hc := Lib.hid hc
  have Hq := Lib.hid (show a / b = 0 from by rw [Rat.num_eq_zero.1 (Int.sign_eq_zero_iff_zero.1 hc), Rat.div_def, Rat.inv_zero, Rat.mul_zero])
  obtain ⟨W0, hW0⟩ : ∃ W0, W0 = (((w.alloc (.cells #[.bool r.num.neg, .slice r.num.A r.num.k r.num.c, .bool r.den.neg, .slice r.den.A r.den.k r.den.c] 36)).alloc (.cells #[.bool s.num.neg, .slice s.num.A s.num.k s.num.c, .bool s.den.neg, .slice s.den.A s.den.k s.den.c] 36)).alloc (.cells #[.bool false, .slice none 0 0, .bool false, .slice none 0 0] 36)) := ⟨_, rfl⟩
  obtain ⟨p0, p1, p2, pb⟩ := lay3 hW0
  have HBa := Lib.hid p0
  have HBb := Lib.hid p1
  have HBr := Lib.hid p2
  have Hbel := Lib.hid pb
  have Hx := Lib.hid (Rests.al3 (h.old) hW0)
  have Hx' := Lib.hid (Rests.al3 (h'.old) hW0)
  have HT := Lib.hid (Rests.al3 (hT.old) hW0)
  clear p0 p1 p2 pb
  subst hW0
  have ne01 : w.heap.size ≠ w.heap.size + 1 := by omega
  have ne02 : w.heap.size ≠ w.heap.size + 1 + 1 := by omega
  have ne10 : w.heap.size + 1 ≠ w.heap.size := by omega
  have ne12 : w.heap.size + 1 ≠ w.heap.size + 1 + 1 := by omega
  have ne20 : w.heap.size + 1 + 1 ≠ w.heap.size := by omega
  have ne21 : w.heap.size + 1 + 1 ≠ w.heap.size + 1 := by omega
  clear h h' hT hc
  go_enter Tryz.func21, Tryz.ntmps21
  go_wp2_with fail
  refine (rsign_any _ s b n hn (by first | exact Hx'.out.now | exact Hx'.out.drew.now)).mono ?_
  rintro e w1 ⟨rfl, hb1⟩
  replace HBa := Lib.hid (Blk.below (by exact HBa.out) hb1 (by exact HBa.out.lt))
  obtain ⟨sw1HBa0, sw1HBa1, sw1HBa2, sw1HBa3⟩ := Blk.c4 HBa.out
  replace HBb := Lib.hid (Blk.below (by exact HBb.out) hb1 (by exact HBb.out.lt))
  obtain ⟨sw1HBb0, sw1HBb1, sw1HBb2, sw1HBb3⟩ := Blk.c4 HBb.out
  replace HBr := Lib.hid (Blk.below (by exact HBr.out) hb1 (by exact HBr.out.lt))
  obtain ⟨sw1HBr0, sw1HBr1, sw1HBr2, sw1HBr3⟩ := Blk.c4 HBr.out
  obtain ⟨fw1HBr0, fw1HBr1, fw1HBr2, fw1HBr3⟩ := Blk.f4 HBr.out
  replace Hx := Lib.hid (Rests.below (φ := RatD r a n) (by first | exact Hx.out | exact Hx.out.drew) hb1)
  replace Hx' := Lib.hid (Rests.below (φ := RatD s b n) (by first | exact Hx'.out | exact Hx'.out.drew) hb1)
  replace HT := Lib.hid (Rests.below (φ := Tz) (by first | exact HT.out | exact HT.out.drew) hb1)
  replace Hbel := Lib.hid (Below.after (by first | exact Hbel.out | exact Below.drew Hbel.out) hb1)
  rw [Hc.out]
  clear hb1
  go_wp2_with fail
  have hfin : RetRE (a / b) 10 w (.returned (.tuple #[.agg #[.bool false, .slice none 0 0, .bool false, .slice none 0 0], .int .i64 10])) ((((w1.setCell ⟨w.heap.size + 1 + 1, 0, none⟩ (.bool false)).setCell ⟨w.heap.size + 1 + 1, 1, none⟩ (.slice none 0 0)).setCell ⟨w.heap.size + 1 + 1, 2, none⟩ (.bool false)).setCell ⟨w.heap.size + 1 + 1, 3, none⟩ (.slice none 0 0)) := RetRE.of (r := zeroR) (ret_boxR (r := zeroR) (g := w.heap.size + 1 + 1) (w2 := w1) Hbel.out (by omega) (RatN.zero_den (F := (w.heap.size + 1 + 1 + 1 ≤ ·)) (zeroN _ _) (by rw [Hq.out]; rfl) (by rw [Hq.out]; rfl)) (fun _ h => h))
  have b4 := box4 HBr.out (.bool false) (.slice none 0 0) (.bool false) (.slice none 0 0)
  have q0 : World.cell? ((((w1.setCell ⟨w.heap.size + 1 + 1, 0, none⟩ (.bool false)).setCell ⟨w.heap.size + 1 + 1, 1, none⟩ (.slice none 0 0)).setCell ⟨w.heap.size + 1 + 1, 2, none⟩ (.bool false)).setCell ⟨w.heap.size + 1 + 1, 3, none⟩ (.slice none 0 0)) ⟨w.heap.size + 1 + 1, 0, none⟩ = some (.bool false) := b4.cell 0
  have q1 : World.cell? ((((w1.setCell ⟨w.heap.size + 1 + 1, 0, none⟩ (.bool false)).setCell ⟨w.heap.size + 1 + 1, 1, none⟩ (.slice none 0 0)).setCell ⟨w.heap.size + 1 + 1, 2, none⟩ (.bool false)).setCell ⟨w.heap.size + 1 + 1, 3, none⟩ (.slice none 0 0)) ⟨w.heap.size + 1 + 1, 1, none⟩ = some (.slice none 0 0) := b4.cell 1
  have q2 : World.cell? ((((w1.setCell ⟨w.heap.size + 1 + 1, 0, none⟩ (.bool false)).setCell ⟨w.heap.size + 1 + 1, 1, none⟩ (.slice none 0 0)).setCell ⟨w.heap.size + 1 + 1, 2, none⟩ (.bool false)).setCell ⟨w.heap.size + 1 + 1, 3, none⟩ (.slice none 0 0)) ⟨w.heap.size + 1 + 1, 2, none⟩ = some (.bool false) := b4.cell 2
  have q3 : World.cell? ((((w1.setCell ⟨w.heap.size + 1 + 1, 0, none⟩ (.bool false)).setCell ⟨w.heap.size + 1 + 1, 1, none⟩ (.slice none 0 0)).setCell ⟨w.heap.size + 1 + 1, 2, none⟩ (.bool false)).setCell ⟨w.heap.size + 1 + 1, 3, none⟩ (.slice none 0 0)) ⟨w.heap.size + 1 + 1, 3, none⟩ = some (.slice none 0 0) := b4.cell 3
  clear b4 HBr Hbel
  generalize ((((w1.setCell ⟨w.heap.size + 1 + 1, 0, none⟩ (.bool false)).setCell ⟨w.heap.size + 1 + 1, 1, none⟩ (.slice none 0 0)).setCell ⟨w.heap.size + 1 + 1, 2, none⟩ (.bool false)).setCell ⟨w.heap.size + 1 + 1, 3, none⟩ (.slice none 0 0)) = W at *
  exact bodyPost_ret (v := .tuple #[.agg #[.bool false, .slice none 0 0, .bool false, .slice none 0 0], .int .i64 10]) (by simp [results, Tryz.results21, go_sem, q0, q1, q2, q3]) rfl hfin
end Go.Proofs.YtbdgeinfijamcaaGreatDoor
