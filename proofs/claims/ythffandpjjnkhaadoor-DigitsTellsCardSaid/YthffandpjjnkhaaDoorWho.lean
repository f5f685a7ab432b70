/-
  whole: signed, Of (below 0), Small (of one digit, below 0).
-/
import Derived.Test.YthffandpjjnkhaaDoorParB
import Derived.Test.YthffandpjjnkhaaDoorRefE
namespace Go.Proofs.YthffandpjjnkhaaDoor
open Go.RowKit

set_option maxRecDepth 100000 in
set_option maxHeartbeats 1000000 in
theorem signed_any (w : World) (neg : Bool) (A : Option Addr) (n c : Nat) :
    Calls Tryd.prog 60 #[.bool neg, .slice A n c] w fun e w' => e = .returned (.agg #[.bool (neg && decide (0 < n)), .slice A n c]) ∧ Below w.heap.size w w' := by
  have hfin : ∀ r, Blk (w.alloc (.cells #[.bool r, .slice A n c] 25)) w.heap.size 25 #[.bool r, .slice A n c] ∧ Below w.heap.size w (w.alloc (.cells #[.bool r, .slice A n c] 25)) := fun r => ⟨Blk.new _ _ _, Below.of_alloc _ _⟩
  have Hfin := Lib.hid hfin; clear hfin
  cases neg
  · go_enter Tryd.func60, Tryd.ntmps60
    go_wp2_with fail
    have q0 := (Hfin.out false).1.cell 0
    have q1 := (Hfin.out false).1.cell 1
    have hB := (Hfin.out false).2
    generalize w.alloc (.cells #[.bool false, .slice A n c] 25) = W at *
    exact bodyPost_ret (v := .agg #[.bool false, .slice A n c]) (by simp [results, Tryd.results60, go_sem, q0, q1]) rfl ⟨rfl, hB⟩
  · rw [Bool.true_and]
    go_enter Tryd.func60, Tryd.ntmps60
    go_wp2_with fail
    generalize decide (0 < n) = r at *
    have q0 := (Hfin.out r).1.cell 0
    have q1 := (Hfin.out r).1.cell 1
    have hB := (Hfin.out r).2
    generalize w.alloc (.cells #[.bool r, .slice A n c] 25) = W at *
    exact bodyPost_ret (v := .agg #[.bool r, .slice A n c]) (by simp [results, Tryd.results60, go_sem, q0, q1]) rfl ⟨rfl, hB⟩

set_option maxRecDepth 100000 in
set_option maxHeartbeats 1000000 in
/-- a small number below 0 -/
theorem of_neg (w : World) (x : Nat) (h0 : 0 < x) (h1 : x ≤ 9223372036854775807) :
    Calls Tryd.prog 27 #[.int .i64 (-(x : Int))] w (RetI true x w) := by
  have e1 : IntKind.u64.wrap (-(x : Int)) = ((B64 - x : Nat) : Int) := by rw [IntKind.wrap_u64]; simp only [B64]; omega
  have e2 : IntKind.u64.wrap (-((B64 - x : Nat) : Int)) = (x : Int) := by rw [IntKind.wrap_u64]; simp only [B64]; omega
  have hlt : -(x : Int) < 0 := by omega
  have hx64 : x < B64 := by simp only [B64]; omega
  have htr : trim [x] = digs B64 x := by rw [trim_eq (b := B64) (by decide) (lt_one hx64), val_one]
  have hd : digs B64 x = [x] := digs_one (by decide) h0 hx64
  have HT := Lib.hid htr; have HD := Lib.hid hd
  clear htr hd
  generalize (B64 - x) = y at *
  go_enter Tryd.func27, Tryd.ntmps27
  generalize -(x : Int) = z at *
  go_wp2_with fail
  have Htr := trim_any ((w.alloc (.cells #[.bool false, .slice none 0 0] 25)).alloc (.cells #[.int .u64 x] 31)) (some ⟨w.heap.size + 1, 0, none⟩) 1 [x] (by simp) (rd_one (by simp))
  have HB0 := Lib.hid ((Blk.new w 25 #[.bool false, .slice none 0 0]).alloc (.cells #[.int .u64 x] 31))
  have Hb0 := Lib.hid (show Below w.heap.size w ((w.alloc (.cells #[.bool false, .slice none 0 0] 25)).alloc (.cells #[.int .u64 x] 31)) from (Below.of_alloc _ _).alloc (by simp) _)
  refine Htr.mono ?_
  clear Htr
  rintro e w1 ⟨A1, c1, rfl, hc1, hr1, hb1, hf1⟩
  rw [HT.out] at hc1 hr1 hf1 ⊢
  have hz : w.heap.size + 2 ≤ w1.heap.size := by have := hb1.size; simpa using this
  have HB1 := Lib.hid (HB0.out.below hb1 (by simp; omega))
  have Hb1 := Lib.hid (Hb0.out.trans (hb1.mono (by simp; omega)))
  have Hf1 := Lib.hid (show Fr (w.heap.size + 1) A1 (digs B64 x) from fun i hi => by have := hf1 i hi; simp at this; omega)
  have Hr1 := Lib.hid hr1; have Hc1 := Lib.hid hc1
  clear hc1 hr1 hf1 hb1
  obtain ⟨n, hn⟩ : ∃ n, n = (digs B64 x).length := ⟨_, rfl⟩
  have Hn := Lib.hid hn
  have Hn1 := Lib.hid (show 0 < n by rw [hn, HD.out]; simp)
  rw [← hn]; clear hn
  go_wp2_with fail
  refine (signed_any w1 true A1 n c1).mono ?_
  rintro e w2 ⟨rfl, hb2⟩
  have hr : (true && decide (0 < n)) = true := by simp [Hn1.out]
  rw [hr]; clear hr
  have hB2 := HB1.out.below hb2 HB1.out.lt
  have Hb2 := Lib.hid (Hb1.out.trans (hb2.mono Hb1.out.size))
  have Hr2 := Lib.hid (Hr1.out.below hb2 (Nat.le_refl _))
  have p0 : w2.cell? ⟨w.heap.size, 0, none⟩ = some (.bool false) := hB2.cell 0
  have p1 : w2.cell? ⟨w.heap.size, 1, none⟩ = some (.slice none 0 0) := hB2.cell 1
  have p2 : w2.frozen? ⟨w.heap.size, 0, none⟩ = false := hB2.frozen 0
  have p3 : w2.frozen? ⟨w.heap.size, 1, none⟩ = false := hB2.frozen 1
  have Hres := Lib.hid (show Blk ((w2.setCell ⟨w.heap.size, 0, none⟩ (.bool true)).setCell ⟨w.heap.size, 1, none⟩ (.slice A1 n c1)) w.heap.size 25 #[.bool true, .slice A1 n c1] from (hB2.set_ 0 (.bool true)).set_ 1 (.slice A1 n c1))
  have Hfin := Lib.hid (show RetI true x w (.returned (.agg #[.bool true, .slice A1 n c1])) ((w2.setCell ⟨w.heap.size, 0, none⟩ (.bool true)).setCell ⟨w.heap.size, 1, none⟩ (.slice A1 n c1)) by
    rw [Hn.out]
    refine ⟨A1, c1, rfl, Hc1.out, ?_, ?_, fun i hi => by have := Hf1.out i hi; omega⟩
    · exact fr_set (fr_set Hr2.out (a := ⟨w.heap.size, 0, none⟩) Hf1.out _) (a := ⟨w.heap.size, 1, none⟩) Hf1.out _
    · exact (Hb2.out.setCell (p := ⟨w.heap.size, 0, none⟩) (Nat.le_refl _) _).setCell (p := ⟨w.heap.size, 1, none⟩) (Nat.le_refl _) _)
  clear hB2 hb2
  go_wp2_with fail
  have q0 := Hres.out.cell 0
  have q1 := Hres.out.cell 1
  clear p0 p1 p2 p3
  have Hf := Hfin.out
  generalize ((w2.setCell ⟨w.heap.size, 0, none⟩ (.bool true)).setCell ⟨w.heap.size, 1, none⟩ (.slice A1 n c1)) = W at *
  exact bodyPost_ret (v := .agg #[.bool true, .slice A1 n c1]) (by simp [results, Tryd.results27, go_sem, q0, q1]) rfl Hf

set_option maxRecDepth 100000 in
set_option maxHeartbeats 2000000 in
/-- a number of one digit, below 0, as an int64 -/
theorem wsmall_neg (w : World) (A : Option Addr) (c x : Nat) (h0 : 0 < x) (h1 : x ≤ 9223372036854775807) (ha : Rd w .u64 A [x]) :
    Calls Tryd.prog 49 #[.agg #[.bool true, .slice A 1 c]] w fun e w' => e = .returned (.tuple #[.int .i64 (-(x : Int)), .bool true]) ∧ Below w.heap.size w w' := by
  have e1 : IntKind.u64.wrap (-(x : Int)) = ((B64 - x : Nat) : Int) := by rw [IntKind.wrap_u64]; simp only [B64]; omega
  have e2 : IntKind.i64.wrap ((B64 - x : Nat) : Int) = -(x : Int) := by rw [IntKind.wrap_i64]; simp only [B64]; omega
  have hx64 : x < B64 := by simp only [B64]; omega
  have hle : (x : Int) ≤ 9223372036854775808 := by omega
  have HT := Lib.hid (show trim [x] = [x] by rw [trim_eq (b := B64) (by decide) (lt_one hx64), val_one, digs_one (by decide) h0 hx64])
  have Htr := Lib.hid (trim_any (w.alloc (.cells #[.bool true, .slice A 1 c] 25)) A c [x] (by simp) (ha.alloc _))
  have HB0 := Lib.hid (Blk.new w 25 #[.bool true, .slice A 1 c])
  generalize (B64 - x) = y at *
  clear ha
  go_enter Tryd.func49, Tryd.ntmps49
  go_wp2_with fail
  refine Htr.out.mono ?_
  clear Htr
  rintro e w1 ⟨A1, c1, rfl, hc1, hr1, hb1, -⟩
  rw [HT.out] at hc1 hr1 ⊢
  rw [show [x].length = 1 from rfl]
  have hs1 : Sl A1 1 := hr1.sl
  have hcell : w1.cell? (adr A1 0) = some (.int .u64 (x : Int)) := hr1.cell 0 (by simp)
  have hB1 := HB0.out.below hb1 (by simp)
  have p0 : w1.cell? ⟨w.heap.size, 0, none⟩ = some (.bool true) := hB1.cell 0
  have p1 : w1.cell? ⟨w.heap.size, 1, none⟩ = some (.slice A 1 c) := hB1.cell 1
  have Hb := Lib.hid (show Below w.heap.size w w1 from (Below.of_alloc _ _).trans (hb1.mono (by simp)))
  have hsz := size_u64
  clear hb1 hB1 hr1 HT HB0
  go_wp2_with fail
  go_ret2
  exact ⟨rfl, Hb.out⟩
end Go.Proofs.YthffandpjjnkhaaDoor
