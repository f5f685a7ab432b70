/-
  whole: Of.
-/
import Derived.Test.YthffandpjjnkhaaDoorWB
namespace Go.Proofs.YthffandpjjnkhaaDoor
open Go.RowKit

theorem oneDig {W : World} {B x : Nat} (h : Blk W B 31 (ints .u64 [x])) (hx : x < B64) : Calls Tryd.prog 45 #[.slice (some ⟨B, 0, none⟩) 1 1] W (RetL .u64 (digs B64 x) W) := by
  have h1 := trim_any W (some ⟨B, 0, none⟩) 1 [x] (by simp) (Rd.of_blk h)
  have h2 : trim [x] = digs B64 x := by rw [trim_eq (b := B64) (by decide) (lt_single hx)]; simp [val]
  rw [h2] at h1
  exact h1

set_option maxRecDepth 100000 in
set_option maxHeartbeats 1000000 in
theorem wof_neg (w : World) (z : Int) (h1 : -9223372036854775808 ≤ z) (h2 : z ≤ 9223372036854775807) (hz : z < 0) :
    Calls Tryd.prog 27 #[.int .i64 z] w (RetZ z w) := by
  have HBr := Lib.hid ((Blk.new w 25 #[.bool false, .slice none 0 0]).alloc (.cells #[.int .u64 (z.natAbs : Int)] 31))
  have HB1 := Lib.hid (by have := Blk.new (w.alloc (.cells #[.bool false, .slice none 0 0] 25)) 31 (ints .u64 [z.natAbs]); simpa [ints] using this : Blk ((w.alloc (.cells #[.bool false, .slice none 0 0] 25)).alloc (.cells #[.int .u64 (z.natAbs : Int)] 31)) (w.heap.size + 1) 31 (ints .u64 [z.natAbs]))
  have Hbel := Lib.hid (show Below w.heap.size w ((w.alloc (.cells #[.bool false, .slice none 0 0] 25)).alloc (.cells #[.int .u64 (z.natAbs : Int)] 31)) from (Below.of_alloc _ _).alloc (by simp) _)
  have e1 : IntKind.u64.wrap z = ((B64 - z.natAbs : Nat) : Int) := by rw [IntKind.wrap_u64]; simp only [B64]; omega
  have e2 : IntKind.u64.wrap (-((B64 - z.natAbs : Nat) : Int)) = (z.natAbs : Int) := by rw [IntKind.wrap_u64]; simp only [B64]; omega
  generalize B64 - z.natAbs = y at *
  have Hz := Lib.hid hz
  
  go_enter Tryd.func27, Tryd.ntmps27
  go_wp2_with fail
  refine (oneDig HB1.out (by simp only [B64] <;> omega)).mono ?_
  rintro e w1 ⟨A1, c1, rfl, hc1, hr1, hb1, hf1⟩
  have hgl := HBr.out.lt
  replace HBr := Lib.hid (Blk.below (by exact HBr.out) hb1 (by exact HBr.out.lt))
  have sw1HBr0 : w1.cell? ⟨w.heap.size, 0, none⟩ = some (.bool false) := HBr.out.cell 0
  have sw1HBr1 : w1.cell? ⟨w.heap.size, 1, none⟩ = some (.slice none 0 0) := HBr.out.cell 1
  have fw1HBr0 : w1.frozen? ⟨w.heap.size, 0, none⟩ = false := HBr.out.frozen 0
  have fw1HBr1 : w1.frozen? ⟨w.heap.size, 1, none⟩ = false := HBr.out.frozen 1
  replace Hbel := Lib.hid (Below.after (by first | exact Hbel.out | exact Below.drew Hbel.out) hb1)
  have Hr1 := Lib.hid (rests_rd (F := (w.heap.size + 1 ≤ ·)) hr1 (fun k hk => Nat.le_trans hgl (hf1 k hk)))
  have Hc1 := Lib.hid hc1
  clear hr1 hc1 hf1 hgl
  clear hb1
  go_wp2_with fail
  refine (wsigned_any _ _ _ _ _).mono ?_
  rintro e w2 ⟨rfl, hb2⟩
  replace HBr := Lib.hid (Blk.below (by exact HBr.out) hb2 (by exact HBr.out.lt))
  have sw2HBr0 : w2.cell? ⟨w.heap.size, 0, none⟩ = some (.bool false) := HBr.out.cell 0
  have sw2HBr1 : w2.cell? ⟨w.heap.size, 1, none⟩ = some (.slice none 0 0) := HBr.out.cell 1
  have fw2HBr0 : w2.frozen? ⟨w.heap.size, 0, none⟩ = false := HBr.out.frozen 0
  have fw2HBr1 : w2.frozen? ⟨w.heap.size, 1, none⟩ = false := HBr.out.frozen 1
  replace Hr1 := Lib.hid (Rests.below (φ := fun W => Rd W .u64 A1 (digs B64 z.natAbs)) (by first | exact Hr1.out | exact Hr1.out.drew) hb2)
  replace Hbel := Lib.hid (Below.after (by first | exact Hbel.out | exact Below.drew Hbel.out) hb2)
  clear hb2
  go_wp2_with fail
  have hfin := ret_box (z := z) (nb := decide (0 < (digs B64 z.natAbs).length)) (g := w.heap.size) (w2 := w2) Hbel.out (by omega) Hr1.out (fun _ hb => hb) Hc1.out (rfl) (by have h5 := Hz.out; have := sgn_norm true z.natAbs; rw [Bool.true_and] at this; rw [this, show iv true z.natAbs = z by (simp only [iv, if_true]; omega)])
  obtain ⟨q0, q1⟩ := box2 HBr.out (.bool (decide (0 < (digs B64 z.natAbs).length))) (.slice A1 (digs B64 (z.natAbs)).length c1)
  clear HBr Hbel Hr1 
  generalize ((w2.setCell ⟨w.heap.size, 0, none⟩ (.bool (decide (0 < (digs B64 z.natAbs).length)))).setCell ⟨w.heap.size, 1, none⟩ (.slice A1 (digs B64 (z.natAbs)).length c1)) = W at *
  exact bodyPost_ret (v := .agg #[.bool (decide (0 < (digs B64 z.natAbs).length)), .slice A1 (digs B64 (z.natAbs)).length c1]) (by simp [results, Tryd.results27, go_sem, q0, q1]) rfl hfin

set_option maxRecDepth 100000 in
set_option maxHeartbeats 1000000 in
theorem wof_pos (w : World) (z : Int) (h1 : -9223372036854775808 ≤ z) (h2 : z ≤ 9223372036854775807) (hz : 0 ≤ z) :
    Calls Tryd.prog 27 #[.int .i64 z] w (RetZ z w) := by
  have HBr := Lib.hid ((Blk.new w 25 #[.bool false, .slice none 0 0]).alloc (.cells #[.int .u64 (z.natAbs : Int)] 31))
  have HB1 := Lib.hid (by have := Blk.new (w.alloc (.cells #[.bool false, .slice none 0 0] 25)) 31 (ints .u64 [z.natAbs]); simpa [ints] using this : Blk ((w.alloc (.cells #[.bool false, .slice none 0 0] 25)).alloc (.cells #[.int .u64 (z.natAbs : Int)] 31)) (w.heap.size + 1) 31 (ints .u64 [z.natAbs]))
  have Hbel := Lib.hid (show Below w.heap.size w ((w.alloc (.cells #[.bool false, .slice none 0 0] 25)).alloc (.cells #[.int .u64 (z.natAbs : Int)] 31)) from (Below.of_alloc _ _).alloc (by simp) _)
  have e1 : IntKind.u64.wrap z = (z.natAbs : Int) := by rw [IntKind.wrap_u64]; omega
  have hz' : ¬ z < 0 := by omega
  have Hz := Lib.hid hz
  clear hz
  go_enter Tryd.func27, Tryd.ntmps27
  go_wp2_with fail
  refine (oneDig HB1.out (by simp only [B64] <;> omega)).mono ?_
  rintro e w1 ⟨A1, c1, rfl, hc1, hr1, hb1, hf1⟩
  have hgl := HBr.out.lt
  replace HBr := Lib.hid (Blk.below (by exact HBr.out) hb1 (by exact HBr.out.lt))
  have sw1HBr0 : w1.cell? ⟨w.heap.size, 0, none⟩ = some (.bool false) := HBr.out.cell 0
  have sw1HBr1 : w1.cell? ⟨w.heap.size, 1, none⟩ = some (.slice none 0 0) := HBr.out.cell 1
  have fw1HBr0 : w1.frozen? ⟨w.heap.size, 0, none⟩ = false := HBr.out.frozen 0
  have fw1HBr1 : w1.frozen? ⟨w.heap.size, 1, none⟩ = false := HBr.out.frozen 1
  replace Hbel := Lib.hid (Below.after (by first | exact Hbel.out | exact Below.drew Hbel.out) hb1)
  have Hr1 := Lib.hid (rests_rd (F := (w.heap.size + 1 ≤ ·)) hr1 (fun k hk => Nat.le_trans hgl (hf1 k hk)))
  have Hc1 := Lib.hid hc1
  clear hr1 hc1 hf1 hgl
  clear hb1
  go_wp2_with fail
  refine (wsigned_any _ _ _ _ _).mono ?_
  rintro e w2 ⟨rfl, hb2⟩
  replace HBr := Lib.hid (Blk.below (by exact HBr.out) hb2 (by exact HBr.out.lt))
  have sw2HBr0 : w2.cell? ⟨w.heap.size, 0, none⟩ = some (.bool false) := HBr.out.cell 0
  have sw2HBr1 : w2.cell? ⟨w.heap.size, 1, none⟩ = some (.slice none 0 0) := HBr.out.cell 1
  have fw2HBr0 : w2.frozen? ⟨w.heap.size, 0, none⟩ = false := HBr.out.frozen 0
  have fw2HBr1 : w2.frozen? ⟨w.heap.size, 1, none⟩ = false := HBr.out.frozen 1
  replace Hr1 := Lib.hid (Rests.below (φ := fun W => Rd W .u64 A1 (digs B64 z.natAbs)) (by first | exact Hr1.out | exact Hr1.out.drew) hb2)
  replace Hbel := Lib.hid (Below.after (by first | exact Hbel.out | exact Below.drew Hbel.out) hb2)
  clear hb2
  go_wp2_with fail
  have hfin := ret_box (z := z) (nb := false) (g := w.heap.size) (w2 := w2) Hbel.out (by omega) Hr1.out (fun _ hb => hb) Hc1.out (rfl) (by have h5 := Hz.out; simp; omega)
  obtain ⟨q0, q1⟩ := box2 HBr.out (.bool (false)) (.slice A1 (digs B64 (z.natAbs)).length c1)
  clear HBr Hbel Hr1 
  generalize ((w2.setCell ⟨w.heap.size, 0, none⟩ (.bool (false))).setCell ⟨w.heap.size, 1, none⟩ (.slice A1 (digs B64 (z.natAbs)).length c1)) = W at *
  exact bodyPost_ret (v := .agg #[.bool (false), .slice A1 (digs B64 (z.natAbs)).length c1]) (by simp [results, Tryd.results27, go_sem, q0, q1]) rfl hfin

theorem wof_any (w : World) (z : Int) (h1 : -9223372036854775808 ≤ z) (h2 : z ≤ 9223372036854775807) : Calls Tryd.prog 27 #[.int .i64 z] w (RetZ z w) := by
  by_cases hz : z < 0
  · exact wof_neg w z h1 h2 hz
  · exact wof_pos w z h1 h2 (by omega)
end Go.Proofs.YthffandpjjnkhaaDoor
