/-
  ratio.Parse of whatever text.
-/
import Derived.Test.YtbdgeinfijamcaaGreatDoorSD
namespace Go.Proofs.YtbdgeinfijamcaaGreatDoor
open Go.RowKit

set_option maxRecDepth 100000 in
set_option maxHeartbeats 2000000 in
theorem rparse_A_true (w : World) (s top bot : ByteArray) (p d : Nat) (x y : Int) (px : Bool) (hT : Tz w)
    (hc : ∀ W, Calls Tryz.prog 101 #[.string s, .string ⟨#[47]⟩] W fun e w' => e = .returned (.tuple #[.string top, .string bot, .bool true]) ∧ Below W.heap.size W w')
    (h1 : ∀ W, Calls Tryz.prog 102 #[.string top] W (RetPI p x W)) (h2 : ∀ W, Calls Tryz.prog 102 #[.string bot] W (RetPI d y W))
    (h3 : ∀ W, Calls Tryz.prog 103 #[.string bot, .string ⟨#[45]⟩] W fun e w' => e = .returned (.bool px) ∧ w' = W) (hp : p = 11) :
    Calls Tryz.prog 55 #[.string s] w (RetRE (0) 11 w) := by
  have Hc := Lib.hid hc; have H1 := Lib.hid h1; have H2 := Lib.hid h2; have H3 := Lib.hid h3
  obtain ⟨W0, hW0⟩ : ∃ W0, W0 = (w.alloc (.cells #[.bool false, .slice none 0 0, .bool false, .slice none 0 0] 36)) := ⟨_, rfl⟩
  obtain ⟨p0, pb⟩ := lay1 hW0
  have HBr := Lib.hid p0
  have Hbel := Lib.hid pb
  have HT := Lib.hid (Rests.al1 (hT.old) hW0)
  clear p0 pb
  subst hW0
  clear hc h1 h2 h3 hT
  subst hp
  go_enter Tryz.func55, Tryz.ntmps55
  go_wp2_with fail
  refine (Hc.out _).mono ?_
  rintro e w1 ⟨rfl, hb1⟩
  replace HBr := Lib.hid (Blk.below (by exact HBr.out) hb1 (by exact HBr.out.lt))
  obtain ⟨sw1HBr0, sw1HBr1, sw1HBr2, sw1HBr3⟩ := Blk.c4 HBr.out
  obtain ⟨fw1HBr0, fw1HBr1, fw1HBr2, fw1HBr3⟩ := Blk.f4 HBr.out
  replace HT := Lib.hid (Rests.below (φ := Tz) (by first | exact HT.out | exact HT.out.drew) hb1)
  replace Hbel := Lib.hid (Below.after (by first | exact Hbel.out | exact Below.drew Hbel.out) hb1)
  clear hb1
  go_wp2_with fail
  refine (H1.out _).mono ?_
  rintro e w2 ⟨i, rfl, hi, hb2⟩
  replace HBr := Lib.hid (Blk.below (by exact HBr.out) hb2 (by exact HBr.out.lt))
  obtain ⟨sw2HBr0, sw2HBr1, sw2HBr2, sw2HBr3⟩ := Blk.c4 HBr.out
  obtain ⟨fw2HBr0, fw2HBr1, fw2HBr2, fw2HBr3⟩ := Blk.f4 HBr.out
  replace HT := Lib.hid (Rests.below (φ := Tz) (by first | exact HT.out | exact HT.out.drew) hb2)
  replace Hbel := Lib.hid (Below.after (by first | exact Hbel.out | exact Below.drew Hbel.out) hb2)
  have Hi := Lib.hid hi.old
  clear hi
  clear hb2
  replace HBr := Lib.hid (HBr.out.alloc (.cells #[.bool i.neg, .slice i.A i.k i.c] 34))
  replace HT := Lib.hid (HT.out.alloc (.cells #[.bool i.neg, .slice i.A i.k i.c] 34))
  replace Hi := Lib.hid (Hi.out.alloc (.cells #[.bool i.neg, .slice i.A i.k i.c] 34))
  replace Hbel := Lib.hid (Hbel.out.alloc Hbel.out.size (.cells #[.bool i.neg, .slice i.A i.k i.c] 34))
  have HBi := Lib.hid (Blk.new w2 34 #[.bool i.neg, .slice i.A i.k i.c])
  clear sw2HBr0 sw2HBr1 sw2HBr2 sw2HBr3
  go_wp2_with fail
  generalize hW2 : w2.alloc (.cells #[.bool i.neg, .slice i.A i.k i.c] 34) = W2 at *
  generalize hgi : w2.heap.size = gi at *
  clear hW2 hgi
  have kW2HBr0 : World.cell? _ ⟨w.heap.size, 0, none⟩ = some (.bool false) := HBr.out.cell 0
  have kW2fHBr0 : World.frozen? _ ⟨w.heap.size, 0, none⟩ = false := HBr.out.frozen 0
  have kW2HBr1 : World.cell? _ ⟨w.heap.size, 1, none⟩ = some (.slice none 0 0) := HBr.out.cell 1
  have kW2fHBr1 : World.frozen? _ ⟨w.heap.size, 1, none⟩ = false := HBr.out.frozen 1
  have kW2HBr2 : World.cell? _ ⟨w.heap.size, 2, none⟩ = some (.bool false) := HBr.out.cell 2
  have kW2fHBr2 : World.frozen? _ ⟨w.heap.size, 2, none⟩ = false := HBr.out.frozen 2
  have kW2HBr3 : World.cell? _ ⟨w.heap.size, 3, none⟩ = some (.slice none 0 0) := HBr.out.cell 3
  have kW2fHBr3 : World.frozen? _ ⟨w.heap.size, 3, none⟩ = false := HBr.out.frozen 3
  have kW2HBi0 : World.cell? _ ⟨gi, 0, none⟩ = some (.bool i.neg) := HBi.out.cell 0
  have kW2HBi1 : World.cell? _ ⟨gi, 1, none⟩ = some (.slice i.A i.k i.c) := HBi.out.cell 1
  refine (H2.out _).mono ?_
  rintro e w3 ⟨j, rfl, hj, hb3⟩
  replace HBr := Lib.hid (Blk.below (by exact HBr.out) hb3 (by exact HBr.out.lt))
  obtain ⟨sw3HBr0, sw3HBr1, sw3HBr2, sw3HBr3⟩ := Blk.c4 HBr.out
  obtain ⟨fw3HBr0, fw3HBr1, fw3HBr2, fw3HBr3⟩ := Blk.f4 HBr.out
  replace HBi := Lib.hid (Blk.below (by exact HBi.out) hb3 (by exact HBi.out.lt))
  obtain ⟨sw3HBi0, sw3HBi1⟩ := Blk.c2 HBi.out
  replace HT := Lib.hid (Rests.below (φ := Tz) (by first | exact HT.out | exact HT.out.drew) hb3)
  replace Hi := Lib.hid (Rests.below (φ := IntD i x 100) (by first | exact Hi.out | exact Hi.out.drew) hb3)
  replace Hbel := Lib.hid (Below.after (by first | exact Hbel.out | exact Below.drew Hbel.out) hb3)
  have Hj := Lib.hid hj.old
  clear hj
  clear hb3
  replace HBr := Lib.hid (HBr.out.alloc (.cells #[.bool j.neg, .slice j.A j.k j.c] 34))
  replace Hbel := Lib.hid (Hbel.out.alloc Hbel.out.size (.cells #[.bool j.neg, .slice j.A j.k j.c] 34))
  clear sw3HBr0 sw3HBr1 sw3HBr2 sw3HBr3
  have yHBr0 : World.cell? _ ⟨w.heap.size, 0, none⟩ = some (.bool false) := HBr.out.cell 0
  have yfHBr0 : World.frozen? _ ⟨w.heap.size, 0, none⟩ = false := HBr.out.frozen 0
  have yHBr1 : World.cell? _ ⟨w.heap.size, 1, none⟩ = some (.slice none 0 0) := HBr.out.cell 1
  have yfHBr1 : World.frozen? _ ⟨w.heap.size, 1, none⟩ = false := HBr.out.frozen 1
  have yHBr2 : World.cell? _ ⟨w.heap.size, 2, none⟩ = some (.bool false) := HBr.out.cell 2
  have yfHBr2 : World.frozen? _ ⟨w.heap.size, 2, none⟩ = false := HBr.out.frozen 2
  have yHBr3 : World.cell? _ ⟨w.heap.size, 3, none⟩ = some (.slice none 0 0) := HBr.out.cell 3
  have yfHBr3 : World.frozen? _ ⟨w.heap.size, 3, none⟩ = false := HBr.out.frozen 3
  go_wp2_with fail
  have hfin : RetRE (0) 11 w (.returned (.tuple #[.agg #[.bool false, .slice none 0 0, .bool false, .slice none 0 0], .int .i64 11])) (((((w3.alloc (.cells #[.bool j.neg, .slice j.A j.k j.c] 34)).setCell ⟨w.heap.size, 0, none⟩ (.bool false)).setCell ⟨w.heap.size, 1, none⟩ (.slice none 0 0)).setCell ⟨w.heap.size, 2, none⟩ (.bool false)).setCell ⟨w.heap.size, 3, none⟩ (.slice none 0 0)) := RetRE.of (r := zeroR) (ret_boxR (r := zeroR) (g := w.heap.size) (w2 := (w3.alloc (.cells #[.bool j.neg, .slice j.A j.k j.c] 34))) Hbel.out (by omega) (RatN.zero_den (F := (w.heap.size + 1 ≤ ·)) (zeroN _ _) rfl rfl) (fun _ h => h))
  have b4 := box4 HBr.out (.bool false) (.slice none 0 0) (.bool false) (.slice none 0 0)
  have q0 : World.cell? (((((w3.alloc (.cells #[.bool j.neg, .slice j.A j.k j.c] 34)).setCell ⟨w.heap.size, 0, none⟩ (.bool false)).setCell ⟨w.heap.size, 1, none⟩ (.slice none 0 0)).setCell ⟨w.heap.size, 2, none⟩ (.bool false)).setCell ⟨w.heap.size, 3, none⟩ (.slice none 0 0)) ⟨w.heap.size, 0, none⟩ = some (.bool false) := b4.cell 0
  have q1 : World.cell? (((((w3.alloc (.cells #[.bool j.neg, .slice j.A j.k j.c] 34)).setCell ⟨w.heap.size, 0, none⟩ (.bool false)).setCell ⟨w.heap.size, 1, none⟩ (.slice none 0 0)).setCell ⟨w.heap.size, 2, none⟩ (.bool false)).setCell ⟨w.heap.size, 3, none⟩ (.slice none 0 0)) ⟨w.heap.size, 1, none⟩ = some (.slice none 0 0) := b4.cell 1
  have q2 : World.cell? (((((w3.alloc (.cells #[.bool j.neg, .slice j.A j.k j.c] 34)).setCell ⟨w.heap.size, 0, none⟩ (.bool false)).setCell ⟨w.heap.size, 1, none⟩ (.slice none 0 0)).setCell ⟨w.heap.size, 2, none⟩ (.bool false)).setCell ⟨w.heap.size, 3, none⟩ (.slice none 0 0)) ⟨w.heap.size, 2, none⟩ = some (.bool false) := b4.cell 2
  have q3 : World.cell? (((((w3.alloc (.cells #[.bool j.neg, .slice j.A j.k j.c] 34)).setCell ⟨w.heap.size, 0, none⟩ (.bool false)).setCell ⟨w.heap.size, 1, none⟩ (.slice none 0 0)).setCell ⟨w.heap.size, 2, none⟩ (.bool false)).setCell ⟨w.heap.size, 3, none⟩ (.slice none 0 0)) ⟨w.heap.size, 3, none⟩ = some (.slice none 0 0) := b4.cell 3
  clear b4 HBr Hbel
  generalize (((((w3.alloc (.cells #[.bool j.neg, .slice j.A j.k j.c] 34)).setCell ⟨w.heap.size, 0, none⟩ (.bool false)).setCell ⟨w.heap.size, 1, none⟩ (.slice none 0 0)).setCell ⟨w.heap.size, 2, none⟩ (.bool false)).setCell ⟨w.heap.size, 3, none⟩ (.slice none 0 0)) = W at *
  exact bodyPost_ret (v := .tuple #[.agg #[.bool false, .slice none 0 0, .bool false, .slice none 0 0], .int .i64 11]) (by simp [results, Tryz.results55, go_sem, q0, q1, q2, q3]) rfl hfin

set_option maxRecDepth 100000 in
set_option maxHeartbeats 2000000 in
theorem rparse_A_false (w : World) (s top bot bt : ByteArray) (p d : Nat) (x y : Int) (px : Bool) (hT : Tz w) (hbb : bot = ⟨#[49]⟩)
    (hc : ∀ W, Calls Tryz.prog 101 #[.string s, .string ⟨#[47]⟩] W fun e w' => e = .returned (.tuple #[.string top, .string bt, .bool false]) ∧ Below W.heap.size W w')
    (h1 : ∀ W, Calls Tryz.prog 102 #[.string top] W (RetPI p x W)) (h2 : ∀ W, Calls Tryz.prog 102 #[.string bot] W (RetPI d y W))
    (h3 : ∀ W, Calls Tryz.prog 103 #[.string bot, .string ⟨#[45]⟩] W fun e w' => e = .returned (.bool px) ∧ w' = W) (hp : p = 11) :
    Calls Tryz.prog 55 #[.string s] w (RetRE (0) 11 w) := by
  have Hc := Lib.hid hc; have H1 := Lib.hid h1; have H2 := Lib.hid h2; have H3 := Lib.hid h3
  obtain ⟨W0, hW0⟩ : ∃ W0, W0 = (w.alloc (.cells #[.bool false, .slice none 0 0, .bool false, .slice none 0 0] 36)) := ⟨_, rfl⟩
  obtain ⟨p0, pb⟩ := lay1 hW0
  have HBr := Lib.hid p0
  have Hbel := Lib.hid pb
  have HT := Lib.hid (Rests.al1 (hT.old) hW0)
  clear p0 pb
  subst hW0
  clear hc h1 h2 h3 hT
  subst hbb
  subst hp
  go_enter Tryz.func55, Tryz.ntmps55
  go_wp2_with fail
  refine (Hc.out _).mono ?_
  rintro e w1 ⟨rfl, hb1⟩
  replace HBr := Lib.hid (Blk.below (by exact HBr.out) hb1 (by exact HBr.out.lt))
  obtain ⟨sw1HBr0, sw1HBr1, sw1HBr2, sw1HBr3⟩ := Blk.c4 HBr.out
  obtain ⟨fw1HBr0, fw1HBr1, fw1HBr2, fw1HBr3⟩ := Blk.f4 HBr.out
  replace HT := Lib.hid (Rests.below (φ := Tz) (by first | exact HT.out | exact HT.out.drew) hb1)
  replace Hbel := Lib.hid (Below.after (by first | exact Hbel.out | exact Below.drew Hbel.out) hb1)
  clear hb1
  go_wp2_with fail
  refine (H1.out _).mono ?_
  rintro e w2 ⟨i, rfl, hi, hb2⟩
  replace HBr := Lib.hid (Blk.below (by exact HBr.out) hb2 (by exact HBr.out.lt))
  obtain ⟨sw2HBr0, sw2HBr1, sw2HBr2, sw2HBr3⟩ := Blk.c4 HBr.out
  obtain ⟨fw2HBr0, fw2HBr1, fw2HBr2, fw2HBr3⟩ := Blk.f4 HBr.out
  replace HT := Lib.hid (Rests.below (φ := Tz) (by first | exact HT.out | exact HT.out.drew) hb2)
  replace Hbel := Lib.hid (Below.after (by first | exact Hbel.out | exact Below.drew Hbel.out) hb2)
  have Hi := Lib.hid hi.old
  clear hi
  clear hb2
  replace HBr := Lib.hid (HBr.out.alloc (.cells #[.bool i.neg, .slice i.A i.k i.c] 34))
  replace HT := Lib.hid (HT.out.alloc (.cells #[.bool i.neg, .slice i.A i.k i.c] 34))
  replace Hi := Lib.hid (Hi.out.alloc (.cells #[.bool i.neg, .slice i.A i.k i.c] 34))
  replace Hbel := Lib.hid (Hbel.out.alloc Hbel.out.size (.cells #[.bool i.neg, .slice i.A i.k i.c] 34))
  have HBi := Lib.hid (Blk.new w2 34 #[.bool i.neg, .slice i.A i.k i.c])
  clear sw2HBr0 sw2HBr1 sw2HBr2 sw2HBr3
  go_wp2_with fail
  generalize hW2 : w2.alloc (.cells #[.bool i.neg, .slice i.A i.k i.c] 34) = W2 at *
  generalize hgi : w2.heap.size = gi at *
  clear hW2 hgi
  have kW2HBr0 : World.cell? _ ⟨w.heap.size, 0, none⟩ = some (.bool false) := HBr.out.cell 0
  have kW2fHBr0 : World.frozen? _ ⟨w.heap.size, 0, none⟩ = false := HBr.out.frozen 0
  have kW2HBr1 : World.cell? _ ⟨w.heap.size, 1, none⟩ = some (.slice none 0 0) := HBr.out.cell 1
  have kW2fHBr1 : World.frozen? _ ⟨w.heap.size, 1, none⟩ = false := HBr.out.frozen 1
  have kW2HBr2 : World.cell? _ ⟨w.heap.size, 2, none⟩ = some (.bool false) := HBr.out.cell 2
  have kW2fHBr2 : World.frozen? _ ⟨w.heap.size, 2, none⟩ = false := HBr.out.frozen 2
  have kW2HBr3 : World.cell? _ ⟨w.heap.size, 3, none⟩ = some (.slice none 0 0) := HBr.out.cell 3
  have kW2fHBr3 : World.frozen? _ ⟨w.heap.size, 3, none⟩ = false := HBr.out.frozen 3
  have kW2HBi0 : World.cell? _ ⟨gi, 0, none⟩ = some (.bool i.neg) := HBi.out.cell 0
  have kW2HBi1 : World.cell? _ ⟨gi, 1, none⟩ = some (.slice i.A i.k i.c) := HBi.out.cell 1
  refine (H2.out _).mono ?_
  rintro e w3 ⟨j, rfl, hj, hb3⟩
  replace HBr := Lib.hid (Blk.below (by exact HBr.out) hb3 (by exact HBr.out.lt))
  obtain ⟨sw3HBr0, sw3HBr1, sw3HBr2, sw3HBr3⟩ := Blk.c4 HBr.out
  obtain ⟨fw3HBr0, fw3HBr1, fw3HBr2, fw3HBr3⟩ := Blk.f4 HBr.out
  replace HBi := Lib.hid (Blk.below (by exact HBi.out) hb3 (by exact HBi.out.lt))
  obtain ⟨sw3HBi0, sw3HBi1⟩ := Blk.c2 HBi.out
  replace HT := Lib.hid (Rests.below (φ := Tz) (by first | exact HT.out | exact HT.out.drew) hb3)
  replace Hi := Lib.hid (Rests.below (φ := IntD i x 100) (by first | exact Hi.out | exact Hi.out.drew) hb3)
  replace Hbel := Lib.hid (Below.after (by first | exact Hbel.out | exact Below.drew Hbel.out) hb3)
  have Hj := Lib.hid hj.old
  clear hj
  clear hb3
  replace HBr := Lib.hid (HBr.out.alloc (.cells #[.bool j.neg, .slice j.A j.k j.c] 34))
  replace Hbel := Lib.hid (Hbel.out.alloc Hbel.out.size (.cells #[.bool j.neg, .slice j.A j.k j.c] 34))
  clear sw3HBr0 sw3HBr1 sw3HBr2 sw3HBr3
  have yHBr0 : World.cell? _ ⟨w.heap.size, 0, none⟩ = some (.bool false) := HBr.out.cell 0
  have yfHBr0 : World.frozen? _ ⟨w.heap.size, 0, none⟩ = false := HBr.out.frozen 0
  have yHBr1 : World.cell? _ ⟨w.heap.size, 1, none⟩ = some (.slice none 0 0) := HBr.out.cell 1
  have yfHBr1 : World.frozen? _ ⟨w.heap.size, 1, none⟩ = false := HBr.out.frozen 1
  have yHBr2 : World.cell? _ ⟨w.heap.size, 2, none⟩ = some (.bool false) := HBr.out.cell 2
  have yfHBr2 : World.frozen? _ ⟨w.heap.size, 2, none⟩ = false := HBr.out.frozen 2
  have yHBr3 : World.cell? _ ⟨w.heap.size, 3, none⟩ = some (.slice none 0 0) := HBr.out.cell 3
  have yfHBr3 : World.frozen? _ ⟨w.heap.size, 3, none⟩ = false := HBr.out.frozen 3
  go_wp2_with fail
  have hfin : RetRE (0) 11 w (.returned (.tuple #[.agg #[.bool false, .slice none 0 0, .bool false, .slice none 0 0], .int .i64 11])) (((((w3.alloc (.cells #[.bool j.neg, .slice j.A j.k j.c] 34)).setCell ⟨w.heap.size, 0, none⟩ (.bool false)).setCell ⟨w.heap.size, 1, none⟩ (.slice none 0 0)).setCell ⟨w.heap.size, 2, none⟩ (.bool false)).setCell ⟨w.heap.size, 3, none⟩ (.slice none 0 0)) := RetRE.of (r := zeroR) (ret_boxR (r := zeroR) (g := w.heap.size) (w2 := (w3.alloc (.cells #[.bool j.neg, .slice j.A j.k j.c] 34))) Hbel.out (by omega) (RatN.zero_den (F := (w.heap.size + 1 ≤ ·)) (zeroN _ _) rfl rfl) (fun _ h => h))
  have b4 := box4 HBr.out (.bool false) (.slice none 0 0) (.bool false) (.slice none 0 0)
  have q0 : World.cell? (((((w3.alloc (.cells #[.bool j.neg, .slice j.A j.k j.c] 34)).setCell ⟨w.heap.size, 0, none⟩ (.bool false)).setCell ⟨w.heap.size, 1, none⟩ (.slice none 0 0)).setCell ⟨w.heap.size, 2, none⟩ (.bool false)).setCell ⟨w.heap.size, 3, none⟩ (.slice none 0 0)) ⟨w.heap.size, 0, none⟩ = some (.bool false) := b4.cell 0
  have q1 : World.cell? (((((w3.alloc (.cells #[.bool j.neg, .slice j.A j.k j.c] 34)).setCell ⟨w.heap.size, 0, none⟩ (.bool false)).setCell ⟨w.heap.size, 1, none⟩ (.slice none 0 0)).setCell ⟨w.heap.size, 2, none⟩ (.bool false)).setCell ⟨w.heap.size, 3, none⟩ (.slice none 0 0)) ⟨w.heap.size, 1, none⟩ = some (.slice none 0 0) := b4.cell 1
  have q2 : World.cell? (((((w3.alloc (.cells #[.bool j.neg, .slice j.A j.k j.c] 34)).setCell ⟨w.heap.size, 0, none⟩ (.bool false)).setCell ⟨w.heap.size, 1, none⟩ (.slice none 0 0)).setCell ⟨w.heap.size, 2, none⟩ (.bool false)).setCell ⟨w.heap.size, 3, none⟩ (.slice none 0 0)) ⟨w.heap.size, 2, none⟩ = some (.bool false) := b4.cell 2
  have q3 : World.cell? (((((w3.alloc (.cells #[.bool j.neg, .slice j.A j.k j.c] 34)).setCell ⟨w.heap.size, 0, none⟩ (.bool false)).setCell ⟨w.heap.size, 1, none⟩ (.slice none 0 0)).setCell ⟨w.heap.size, 2, none⟩ (.bool false)).setCell ⟨w.heap.size, 3, none⟩ (.slice none 0 0)) ⟨w.heap.size, 3, none⟩ = some (.slice none 0 0) := b4.cell 3
  clear b4 HBr Hbel
  generalize (((((w3.alloc (.cells #[.bool j.neg, .slice j.A j.k j.c] 34)).setCell ⟨w.heap.size, 0, none⟩ (.bool false)).setCell ⟨w.heap.size, 1, none⟩ (.slice none 0 0)).setCell ⟨w.heap.size, 2, none⟩ (.bool false)).setCell ⟨w.heap.size, 3, none⟩ (.slice none 0 0)) = W at *
  exact bodyPost_ret (v := .tuple #[.agg #[.bool false, .slice none 0 0, .bool false, .slice none 0 0], .int .i64 11]) (by simp [results, Tryz.results55, go_sem, q0, q1, q2, q3]) rfl hfin

set_option maxRecDepth 100000 in
set_option maxHeartbeats 2000000 in
theorem rparse_B_true (w : World) (s top bot : ByteArray) (p d : Nat) (x y : Int) (px : Bool) (hT : Tz w)
    (hc : ∀ W, Calls Tryz.prog 101 #[.string s, .string ⟨#[47]⟩] W fun e w' => e = .returned (.tuple #[.string top, .string bot, .bool true]) ∧ Below W.heap.size W w')
    (h1 : ∀ W, Calls Tryz.prog 102 #[.string top] W (RetPI p x W)) (h2 : ∀ W, Calls Tryz.prog 102 #[.string bot] W (RetPI d y W))
    (h3 : ∀ W, Calls Tryz.prog 103 #[.string bot, .string ⟨#[45]⟩] W fun e w' => e = .returned (.bool px) ∧ w' = W) (hp : p ≠ 11) (hd : d = 11) :
    Calls Tryz.prog 55 #[.string s] w (RetRE (0) 11 w) := by
  have Hc := Lib.hid hc; have H1 := Lib.hid h1; have H2 := Lib.hid h2; have H3 := Lib.hid h3
  obtain ⟨W0, hW0⟩ : ∃ W0, W0 = (w.alloc (.cells #[.bool false, .slice none 0 0, .bool false, .slice none 0 0] 36)) := ⟨_, rfl⟩
  obtain ⟨p0, pb⟩ := lay1 hW0
  have HBr := Lib.hid p0
  have Hbel := Lib.hid pb
  have HT := Lib.hid (Rests.al1 (hT.old) hW0)
  clear p0 pb
  subst hW0
  clear hc h1 h2 h3 hT
  have e1 : ((p : Int) == 11) = false := by simp; omega
  subst hd
  go_enter Tryz.func55, Tryz.ntmps55
  go_wp2_with fail
  refine (Hc.out _).mono ?_
  rintro e w1 ⟨rfl, hb1⟩
  replace HBr := Lib.hid (Blk.below (by exact HBr.out) hb1 (by exact HBr.out.lt))
  obtain ⟨sw1HBr0, sw1HBr1, sw1HBr2, sw1HBr3⟩ := Blk.c4 HBr.out
  obtain ⟨fw1HBr0, fw1HBr1, fw1HBr2, fw1HBr3⟩ := Blk.f4 HBr.out
  replace HT := Lib.hid (Rests.below (φ := Tz) (by first | exact HT.out | exact HT.out.drew) hb1)
  replace Hbel := Lib.hid (Below.after (by first | exact Hbel.out | exact Below.drew Hbel.out) hb1)
  clear hb1
  go_wp2_with fail
  refine (H1.out _).mono ?_
  rintro e w2 ⟨i, rfl, hi, hb2⟩
  replace HBr := Lib.hid (Blk.below (by exact HBr.out) hb2 (by exact HBr.out.lt))
  obtain ⟨sw2HBr0, sw2HBr1, sw2HBr2, sw2HBr3⟩ := Blk.c4 HBr.out
  obtain ⟨fw2HBr0, fw2HBr1, fw2HBr2, fw2HBr3⟩ := Blk.f4 HBr.out
  replace HT := Lib.hid (Rests.below (φ := Tz) (by first | exact HT.out | exact HT.out.drew) hb2)
  replace Hbel := Lib.hid (Below.after (by first | exact Hbel.out | exact Below.drew Hbel.out) hb2)
  have Hi := Lib.hid hi.old
  clear hi
  clear hb2
  replace HBr := Lib.hid (HBr.out.alloc (.cells #[.bool i.neg, .slice i.A i.k i.c] 34))
  replace HT := Lib.hid (HT.out.alloc (.cells #[.bool i.neg, .slice i.A i.k i.c] 34))
  replace Hi := Lib.hid (Hi.out.alloc (.cells #[.bool i.neg, .slice i.A i.k i.c] 34))
  replace Hbel := Lib.hid (Hbel.out.alloc Hbel.out.size (.cells #[.bool i.neg, .slice i.A i.k i.c] 34))
  have HBi := Lib.hid (Blk.new w2 34 #[.bool i.neg, .slice i.A i.k i.c])
  clear sw2HBr0 sw2HBr1 sw2HBr2 sw2HBr3
  go_wp2_with fail
  generalize hW2 : w2.alloc (.cells #[.bool i.neg, .slice i.A i.k i.c] 34) = W2 at *
  generalize hgi : w2.heap.size = gi at *
  clear hW2 hgi
  have kW2HBr0 : World.cell? _ ⟨w.heap.size, 0, none⟩ = some (.bool false) := HBr.out.cell 0
  have kW2fHBr0 : World.frozen? _ ⟨w.heap.size, 0, none⟩ = false := HBr.out.frozen 0
  have kW2HBr1 : World.cell? _ ⟨w.heap.size, 1, none⟩ = some (.slice none 0 0) := HBr.out.cell 1
  have kW2fHBr1 : World.frozen? _ ⟨w.heap.size, 1, none⟩ = false := HBr.out.frozen 1
  have kW2HBr2 : World.cell? _ ⟨w.heap.size, 2, none⟩ = some (.bool false) := HBr.out.cell 2
  have kW2fHBr2 : World.frozen? _ ⟨w.heap.size, 2, none⟩ = false := HBr.out.frozen 2
  have kW2HBr3 : World.cell? _ ⟨w.heap.size, 3, none⟩ = some (.slice none 0 0) := HBr.out.cell 3
  have kW2fHBr3 : World.frozen? _ ⟨w.heap.size, 3, none⟩ = false := HBr.out.frozen 3
  have kW2HBi0 : World.cell? _ ⟨gi, 0, none⟩ = some (.bool i.neg) := HBi.out.cell 0
  have kW2HBi1 : World.cell? _ ⟨gi, 1, none⟩ = some (.slice i.A i.k i.c) := HBi.out.cell 1
  refine (H2.out _).mono ?_
  rintro e w3 ⟨j, rfl, hj, hb3⟩
  replace HBr := Lib.hid (Blk.below (by exact HBr.out) hb3 (by exact HBr.out.lt))
  obtain ⟨sw3HBr0, sw3HBr1, sw3HBr2, sw3HBr3⟩ := Blk.c4 HBr.out
  obtain ⟨fw3HBr0, fw3HBr1, fw3HBr2, fw3HBr3⟩ := Blk.f4 HBr.out
  replace HBi := Lib.hid (Blk.below (by exact HBi.out) hb3 (by exact HBi.out.lt))
  obtain ⟨sw3HBi0, sw3HBi1⟩ := Blk.c2 HBi.out
  replace HT := Lib.hid (Rests.below (φ := Tz) (by first | exact HT.out | exact HT.out.drew) hb3)
  replace Hi := Lib.hid (Rests.below (φ := IntD i x 100) (by first | exact Hi.out | exact Hi.out.drew) hb3)
  replace Hbel := Lib.hid (Below.after (by first | exact Hbel.out | exact Below.drew Hbel.out) hb3)
  have Hj := Lib.hid hj.old
  clear hj
  clear hb3
  replace HBr := Lib.hid (HBr.out.alloc (.cells #[.bool j.neg, .slice j.A j.k j.c] 34))
  replace Hbel := Lib.hid (Hbel.out.alloc Hbel.out.size (.cells #[.bool j.neg, .slice j.A j.k j.c] 34))
  clear sw3HBr0 sw3HBr1 sw3HBr2 sw3HBr3
  have yHBr0 : World.cell? _ ⟨w.heap.size, 0, none⟩ = some (.bool false) := HBr.out.cell 0
  have yfHBr0 : World.frozen? _ ⟨w.heap.size, 0, none⟩ = false := HBr.out.frozen 0
  have yHBr1 : World.cell? _ ⟨w.heap.size, 1, none⟩ = some (.slice none 0 0) := HBr.out.cell 1
  have yfHBr1 : World.frozen? _ ⟨w.heap.size, 1, none⟩ = false := HBr.out.frozen 1
  have yHBr2 : World.cell? _ ⟨w.heap.size, 2, none⟩ = some (.bool false) := HBr.out.cell 2
  have yfHBr2 : World.frozen? _ ⟨w.heap.size, 2, none⟩ = false := HBr.out.frozen 2
  have yHBr3 : World.cell? _ ⟨w.heap.size, 3, none⟩ = some (.slice none 0 0) := HBr.out.cell 3
  have yfHBr3 : World.frozen? _ ⟨w.heap.size, 3, none⟩ = false := HBr.out.frozen 3
  go_wp2_with fail
  have hfin : RetRE (0) 11 w (.returned (.tuple #[.agg #[.bool false, .slice none 0 0, .bool false, .slice none 0 0], .int .i64 11])) (((((w3.alloc (.cells #[.bool j.neg, .slice j.A j.k j.c] 34)).setCell ⟨w.heap.size, 0, none⟩ (.bool false)).setCell ⟨w.heap.size, 1, none⟩ (.slice none 0 0)).setCell ⟨w.heap.size, 2, none⟩ (.bool false)).setCell ⟨w.heap.size, 3, none⟩ (.slice none 0 0)) := RetRE.of (r := zeroR) (ret_boxR (r := zeroR) (g := w.heap.size) (w2 := (w3.alloc (.cells #[.bool j.neg, .slice j.A j.k j.c] 34))) Hbel.out (by omega) (RatN.zero_den (F := (w.heap.size + 1 ≤ ·)) (zeroN _ _) rfl rfl) (fun _ h => h))
  have b4 := box4 HBr.out (.bool false) (.slice none 0 0) (.bool false) (.slice none 0 0)
  have q0 : World.cell? (((((w3.alloc (.cells #[.bool j.neg, .slice j.A j.k j.c] 34)).setCell ⟨w.heap.size, 0, none⟩ (.bool false)).setCell ⟨w.heap.size, 1, none⟩ (.slice none 0 0)).setCell ⟨w.heap.size, 2, none⟩ (.bool false)).setCell ⟨w.heap.size, 3, none⟩ (.slice none 0 0)) ⟨w.heap.size, 0, none⟩ = some (.bool false) := b4.cell 0
  have q1 : World.cell? (((((w3.alloc (.cells #[.bool j.neg, .slice j.A j.k j.c] 34)).setCell ⟨w.heap.size, 0, none⟩ (.bool false)).setCell ⟨w.heap.size, 1, none⟩ (.slice none 0 0)).setCell ⟨w.heap.size, 2, none⟩ (.bool false)).setCell ⟨w.heap.size, 3, none⟩ (.slice none 0 0)) ⟨w.heap.size, 1, none⟩ = some (.slice none 0 0) := b4.cell 1
  have q2 : World.cell? (((((w3.alloc (.cells #[.bool j.neg, .slice j.A j.k j.c] 34)).setCell ⟨w.heap.size, 0, none⟩ (.bool false)).setCell ⟨w.heap.size, 1, none⟩ (.slice none 0 0)).setCell ⟨w.heap.size, 2, none⟩ (.bool false)).setCell ⟨w.heap.size, 3, none⟩ (.slice none 0 0)) ⟨w.heap.size, 2, none⟩ = some (.bool false) := b4.cell 2
  have q3 : World.cell? (((((w3.alloc (.cells #[.bool j.neg, .slice j.A j.k j.c] 34)).setCell ⟨w.heap.size, 0, none⟩ (.bool false)).setCell ⟨w.heap.size, 1, none⟩ (.slice none 0 0)).setCell ⟨w.heap.size, 2, none⟩ (.bool false)).setCell ⟨w.heap.size, 3, none⟩ (.slice none 0 0)) ⟨w.heap.size, 3, none⟩ = some (.slice none 0 0) := b4.cell 3
  clear b4 HBr Hbel
  generalize (((((w3.alloc (.cells #[.bool j.neg, .slice j.A j.k j.c] 34)).setCell ⟨w.heap.size, 0, none⟩ (.bool false)).setCell ⟨w.heap.size, 1, none⟩ (.slice none 0 0)).setCell ⟨w.heap.size, 2, none⟩ (.bool false)).setCell ⟨w.heap.size, 3, none⟩ (.slice none 0 0)) = W at *
  exact bodyPost_ret (v := .tuple #[.agg #[.bool false, .slice none 0 0, .bool false, .slice none 0 0], .int .i64 11]) (by simp [results, Tryz.results55, go_sem, q0, q1, q2, q3]) rfl hfin

set_option maxRecDepth 100000 in
set_option maxHeartbeats 2000000 in
theorem rparse_B_false (w : World) (s top bot bt : ByteArray) (p d : Nat) (x y : Int) (px : Bool) (hT : Tz w) (hbb : bot = ⟨#[49]⟩)
    (hc : ∀ W, Calls Tryz.prog 101 #[.string s, .string ⟨#[47]⟩] W fun e w' => e = .returned (.tuple #[.string top, .string bt, .bool false]) ∧ Below W.heap.size W w')
    (h1 : ∀ W, Calls Tryz.prog 102 #[.string top] W (RetPI p x W)) (h2 : ∀ W, Calls Tryz.prog 102 #[.string bot] W (RetPI d y W))
    (h3 : ∀ W, Calls Tryz.prog 103 #[.string bot, .string ⟨#[45]⟩] W fun e w' => e = .returned (.bool px) ∧ w' = W) (hp : p ≠ 11) (hd : d = 11) :
    Calls Tryz.prog 55 #[.string s] w (RetRE (0) 11 w) := by
  have Hc := Lib.hid hc; have H1 := Lib.hid h1; have H2 := Lib.hid h2; have H3 := Lib.hid h3
  obtain ⟨W0, hW0⟩ : ∃ W0, W0 = (w.alloc (.cells #[.bool false, .slice none 0 0, .bool false, .slice none 0 0] 36)) := ⟨_, rfl⟩
  obtain ⟨p0, pb⟩ := lay1 hW0
  have HBr := Lib.hid p0
  have Hbel := Lib.hid pb
  have HT := Lib.hid (Rests.al1 (hT.old) hW0)
  clear p0 pb
  subst hW0
  clear hc h1 h2 h3 hT
  subst hbb
  have e1 : ((p : Int) == 11) = false := by simp; omega
  subst hd
  go_enter Tryz.func55, Tryz.ntmps55
  go_wp2_with fail
  refine (Hc.out _).mono ?_
  rintro e w1 ⟨rfl, hb1⟩
  replace HBr := Lib.hid (Blk.below (by exact HBr.out) hb1 (by exact HBr.out.lt))
  obtain ⟨sw1HBr0, sw1HBr1, sw1HBr2, sw1HBr3⟩ := Blk.c4 HBr.out
  obtain ⟨fw1HBr0, fw1HBr1, fw1HBr2, fw1HBr3⟩ := Blk.f4 HBr.out
  replace HT := Lib.hid (Rests.below (φ := Tz) (by first | exact HT.out | exact HT.out.drew) hb1)
  replace Hbel := Lib.hid (Below.after (by first | exact Hbel.out | exact Below.drew Hbel.out) hb1)
  clear hb1
  go_wp2_with fail
  refine (H1.out _).mono ?_
  rintro e w2 ⟨i, rfl, hi, hb2⟩
  replace HBr := Lib.hid (Blk.below (by exact HBr.out) hb2 (by exact HBr.out.lt))
  obtain ⟨sw2HBr0, sw2HBr1, sw2HBr2, sw2HBr3⟩ := Blk.c4 HBr.out
  obtain ⟨fw2HBr0, fw2HBr1, fw2HBr2, fw2HBr3⟩ := Blk.f4 HBr.out
  replace HT := Lib.hid (Rests.below (φ := Tz) (by first | exact HT.out | exact HT.out.drew) hb2)
  replace Hbel := Lib.hid (Below.after (by first | exact Hbel.out | exact Below.drew Hbel.out) hb2)
  have Hi := Lib.hid hi.old
  clear hi
  clear hb2
  replace HBr := Lib.hid (HBr.out.alloc (.cells #[.bool i.neg, .slice i.A i.k i.c] 34))
  replace HT := Lib.hid (HT.out.alloc (.cells #[.bool i.neg, .slice i.A i.k i.c] 34))
  replace Hi := Lib.hid (Hi.out.alloc (.cells #[.bool i.neg, .slice i.A i.k i.c] 34))
  replace Hbel := Lib.hid (Hbel.out.alloc Hbel.out.size (.cells #[.bool i.neg, .slice i.A i.k i.c] 34))
  have HBi := Lib.hid (Blk.new w2 34 #[.bool i.neg, .slice i.A i.k i.c])
  clear sw2HBr0 sw2HBr1 sw2HBr2 sw2HBr3
  go_wp2_with fail
  generalize hW2 : w2.alloc (.cells #[.bool i.neg, .slice i.A i.k i.c] 34) = W2 at *
  generalize hgi : w2.heap.size = gi at *
  clear hW2 hgi
  have kW2HBr0 : World.cell? _ ⟨w.heap.size, 0, none⟩ = some (.bool false) := HBr.out.cell 0
  have kW2fHBr0 : World.frozen? _ ⟨w.heap.size, 0, none⟩ = false := HBr.out.frozen 0
  have kW2HBr1 : World.cell? _ ⟨w.heap.size, 1, none⟩ = some (.slice none 0 0) := HBr.out.cell 1
  have kW2fHBr1 : World.frozen? _ ⟨w.heap.size, 1, none⟩ = false := HBr.out.frozen 1
  have kW2HBr2 : World.cell? _ ⟨w.heap.size, 2, none⟩ = some (.bool false) := HBr.out.cell 2
  have kW2fHBr2 : World.frozen? _ ⟨w.heap.size, 2, none⟩ = false := HBr.out.frozen 2
  have kW2HBr3 : World.cell? _ ⟨w.heap.size, 3, none⟩ = some (.slice none 0 0) := HBr.out.cell 3
  have kW2fHBr3 : World.frozen? _ ⟨w.heap.size, 3, none⟩ = false := HBr.out.frozen 3
  have kW2HBi0 : World.cell? _ ⟨gi, 0, none⟩ = some (.bool i.neg) := HBi.out.cell 0
  have kW2HBi1 : World.cell? _ ⟨gi, 1, none⟩ = some (.slice i.A i.k i.c) := HBi.out.cell 1
  refine (H2.out _).mono ?_
  rintro e w3 ⟨j, rfl, hj, hb3⟩
  replace HBr := Lib.hid (Blk.below (by exact HBr.out) hb3 (by exact HBr.out.lt))
  obtain ⟨sw3HBr0, sw3HBr1, sw3HBr2, sw3HBr3⟩ := Blk.c4 HBr.out
  obtain ⟨fw3HBr0, fw3HBr1, fw3HBr2, fw3HBr3⟩ := Blk.f4 HBr.out
  replace HBi := Lib.hid (Blk.below (by exact HBi.out) hb3 (by exact HBi.out.lt))
  obtain ⟨sw3HBi0, sw3HBi1⟩ := Blk.c2 HBi.out
  replace HT := Lib.hid (Rests.below (φ := Tz) (by first | exact HT.out | exact HT.out.drew) hb3)
  replace Hi := Lib.hid (Rests.below (φ := IntD i x 100) (by first | exact Hi.out | exact Hi.out.drew) hb3)
  replace Hbel := Lib.hid (Below.after (by first | exact Hbel.out | exact Below.drew Hbel.out) hb3)
  have Hj := Lib.hid hj.old
  clear hj
  clear hb3
  replace HBr := Lib.hid (HBr.out.alloc (.cells #[.bool j.neg, .slice j.A j.k j.c] 34))
  replace Hbel := Lib.hid (Hbel.out.alloc Hbel.out.size (.cells #[.bool j.neg, .slice j.A j.k j.c] 34))
  clear sw3HBr0 sw3HBr1 sw3HBr2 sw3HBr3
  have yHBr0 : World.cell? _ ⟨w.heap.size, 0, none⟩ = some (.bool false) := HBr.out.cell 0
  have yfHBr0 : World.frozen? _ ⟨w.heap.size, 0, none⟩ = false := HBr.out.frozen 0
  have yHBr1 : World.cell? _ ⟨w.heap.size, 1, none⟩ = some (.slice none 0 0) := HBr.out.cell 1
  have yfHBr1 : World.frozen? _ ⟨w.heap.size, 1, none⟩ = false := HBr.out.frozen 1
  have yHBr2 : World.cell? _ ⟨w.heap.size, 2, none⟩ = some (.bool false) := HBr.out.cell 2
  have yfHBr2 : World.frozen? _ ⟨w.heap.size, 2, none⟩ = false := HBr.out.frozen 2
  have yHBr3 : World.cell? _ ⟨w.heap.size, 3, none⟩ = some (.slice none 0 0) := HBr.out.cell 3
  have yfHBr3 : World.frozen? _ ⟨w.heap.size, 3, none⟩ = false := HBr.out.frozen 3
  go_wp2_with fail
  have hfin : RetRE (0) 11 w (.returned (.tuple #[.agg #[.bool false, .slice none 0 0, .bool false, .slice none 0 0], .int .i64 11])) (((((w3.alloc (.cells #[.bool j.neg, .slice j.A j.k j.c] 34)).setCell ⟨w.heap.size, 0, none⟩ (.bool false)).setCell ⟨w.heap.size, 1, none⟩ (.slice none 0 0)).setCell ⟨w.heap.size, 2, none⟩ (.bool false)).setCell ⟨w.heap.size, 3, none⟩ (.slice none 0 0)) := RetRE.of (r := zeroR) (ret_boxR (r := zeroR) (g := w.heap.size) (w2 := (w3.alloc (.cells #[.bool j.neg, .slice j.A j.k j.c] 34))) Hbel.out (by omega) (RatN.zero_den (F := (w.heap.size + 1 ≤ ·)) (zeroN _ _) rfl rfl) (fun _ h => h))
  have b4 := box4 HBr.out (.bool false) (.slice none 0 0) (.bool false) (.slice none 0 0)
  have q0 : World.cell? (((((w3.alloc (.cells #[.bool j.neg, .slice j.A j.k j.c] 34)).setCell ⟨w.heap.size, 0, none⟩ (.bool false)).setCell ⟨w.heap.size, 1, none⟩ (.slice none 0 0)).setCell ⟨w.heap.size, 2, none⟩ (.bool false)).setCell ⟨w.heap.size, 3, none⟩ (.slice none 0 0)) ⟨w.heap.size, 0, none⟩ = some (.bool false) := b4.cell 0
  have q1 : World.cell? (((((w3.alloc (.cells #[.bool j.neg, .slice j.A j.k j.c] 34)).setCell ⟨w.heap.size, 0, none⟩ (.bool false)).setCell ⟨w.heap.size, 1, none⟩ (.slice none 0 0)).setCell ⟨w.heap.size, 2, none⟩ (.bool false)).setCell ⟨w.heap.size, 3, none⟩ (.slice none 0 0)) ⟨w.heap.size, 1, none⟩ = some (.slice none 0 0) := b4.cell 1
  have q2 : World.cell? (((((w3.alloc (.cells #[.bool j.neg, .slice j.A j.k j.c] 34)).setCell ⟨w.heap.size, 0, none⟩ (.bool false)).setCell ⟨w.heap.size, 1, none⟩ (.slice none 0 0)).setCell ⟨w.heap.size, 2, none⟩ (.bool false)).setCell ⟨w.heap.size, 3, none⟩ (.slice none 0 0)) ⟨w.heap.size, 2, none⟩ = some (.bool false) := b4.cell 2
  have q3 : World.cell? (((((w3.alloc (.cells #[.bool j.neg, .slice j.A j.k j.c] 34)).setCell ⟨w.heap.size, 0, none⟩ (.bool false)).setCell ⟨w.heap.size, 1, none⟩ (.slice none 0 0)).setCell ⟨w.heap.size, 2, none⟩ (.bool false)).setCell ⟨w.heap.size, 3, none⟩ (.slice none 0 0)) ⟨w.heap.size, 3, none⟩ = some (.slice none 0 0) := b4.cell 3
  clear b4 HBr Hbel
  generalize (((((w3.alloc (.cells #[.bool j.neg, .slice j.A j.k j.c] 34)).setCell ⟨w.heap.size, 0, none⟩ (.bool false)).setCell ⟨w.heap.size, 1, none⟩ (.slice none 0 0)).setCell ⟨w.heap.size, 2, none⟩ (.bool false)).setCell ⟨w.heap.size, 3, none⟩ (.slice none 0 0)) = W at *
  exact bodyPost_ret (v := .tuple #[.agg #[.bool false, .slice none 0 0, .bool false, .slice none 0 0], .int .i64 11]) (by simp [results, Tryz.results55, go_sem, q0, q1, q2, q3]) rfl hfin

set_option maxRecDepth 100000 in
set_option maxHeartbeats 2000000 in
theorem rparse_C_true (w : World) (s top bot : ByteArray) (p d : Nat) (x y : Int) (px : Bool) (hT : Tz w)
    (hc : ∀ W, Calls Tryz.prog 101 #[.string s, .string ⟨#[47]⟩] W fun e w' => e = .returned (.tuple #[.string top, .string bot, .bool true]) ∧ Below W.heap.size W w')
    (h1 : ∀ W, Calls Tryz.prog 102 #[.string top] W (RetPI p x W)) (h2 : ∀ W, Calls Tryz.prog 102 #[.string bot] W (RetPI d y W))
    (h3 : ∀ W, Calls Tryz.prog 103 #[.string bot, .string ⟨#[45]⟩] W fun e w' => e = .returned (.bool px) ∧ w' = W) (hp : p ≠ 11) (hd : d ≠ 11) (hx : px = true) :
    Calls Tryz.prog 55 #[.string s] w (RetRE (0) 11 w) := by
  have Hc := Lib.hid hc; have H1 := Lib.hid h1; have H2 := Lib.hid h2; have H3 := Lib.hid h3
  obtain ⟨W0, hW0⟩ : ∃ W0, W0 = (w.alloc (.cells #[.bool false, .slice none 0 0, .bool false, .slice none 0 0] 36)) := ⟨_, rfl⟩
  obtain ⟨p0, pb⟩ := lay1 hW0
  have HBr := Lib.hid p0
  have Hbel := Lib.hid pb
  have HT := Lib.hid (Rests.al1 (hT.old) hW0)
  clear p0 pb
  subst hW0
  clear hc h1 h2 h3 hT
  have e1 : ((p : Int) == 11) = false := by simp; omega
  have e2 : ((d : Int) == 11) = false := by simp; omega
  subst hx
  clear hp hd
  go_enter Tryz.func55, Tryz.ntmps55
  go_wp2_with fail
  refine (Hc.out _).mono ?_
  rintro e w1 ⟨rfl, hb1⟩
  replace HBr := Lib.hid (Blk.below (by exact HBr.out) hb1 (by exact HBr.out.lt))
  obtain ⟨sw1HBr0, sw1HBr1, sw1HBr2, sw1HBr3⟩ := Blk.c4 HBr.out
  obtain ⟨fw1HBr0, fw1HBr1, fw1HBr2, fw1HBr3⟩ := Blk.f4 HBr.out
  replace HT := Lib.hid (Rests.below (φ := Tz) (by first | exact HT.out | exact HT.out.drew) hb1)
  replace Hbel := Lib.hid (Below.after (by first | exact Hbel.out | exact Below.drew Hbel.out) hb1)
  clear hb1
  go_wp2_with fail
  refine (H1.out _).mono ?_
  rintro e w2 ⟨i, rfl, hi, hb2⟩
  replace HBr := Lib.hid (Blk.below (by exact HBr.out) hb2 (by exact HBr.out.lt))
  obtain ⟨sw2HBr0, sw2HBr1, sw2HBr2, sw2HBr3⟩ := Blk.c4 HBr.out
  obtain ⟨fw2HBr0, fw2HBr1, fw2HBr2, fw2HBr3⟩ := Blk.f4 HBr.out
  replace HT := Lib.hid (Rests.below (φ := Tz) (by first | exact HT.out | exact HT.out.drew) hb2)
  replace Hbel := Lib.hid (Below.after (by first | exact Hbel.out | exact Below.drew Hbel.out) hb2)
  have Hi := Lib.hid hi.old
  clear hi
  clear hb2
  replace HBr := Lib.hid (HBr.out.alloc (.cells #[.bool i.neg, .slice i.A i.k i.c] 34))
  replace HT := Lib.hid (HT.out.alloc (.cells #[.bool i.neg, .slice i.A i.k i.c] 34))
  replace Hi := Lib.hid (Hi.out.alloc (.cells #[.bool i.neg, .slice i.A i.k i.c] 34))
  replace Hbel := Lib.hid (Hbel.out.alloc Hbel.out.size (.cells #[.bool i.neg, .slice i.A i.k i.c] 34))
  have HBi := Lib.hid (Blk.new w2 34 #[.bool i.neg, .slice i.A i.k i.c])
  clear sw2HBr0 sw2HBr1 sw2HBr2 sw2HBr3
  go_wp2_with fail
  generalize hW2 : w2.alloc (.cells #[.bool i.neg, .slice i.A i.k i.c] 34) = W2 at *
  generalize hgi : w2.heap.size = gi at *
  clear hW2 hgi
  have kW2HBr0 : World.cell? _ ⟨w.heap.size, 0, none⟩ = some (.bool false) := HBr.out.cell 0
  have kW2fHBr0 : World.frozen? _ ⟨w.heap.size, 0, none⟩ = false := HBr.out.frozen 0
  have kW2HBr1 : World.cell? _ ⟨w.heap.size, 1, none⟩ = some (.slice none 0 0) := HBr.out.cell 1
  have kW2fHBr1 : World.frozen? _ ⟨w.heap.size, 1, none⟩ = false := HBr.out.frozen 1
  have kW2HBr2 : World.cell? _ ⟨w.heap.size, 2, none⟩ = some (.bool false) := HBr.out.cell 2
  have kW2fHBr2 : World.frozen? _ ⟨w.heap.size, 2, none⟩ = false := HBr.out.frozen 2
  have kW2HBr3 : World.cell? _ ⟨w.heap.size, 3, none⟩ = some (.slice none 0 0) := HBr.out.cell 3
  have kW2fHBr3 : World.frozen? _ ⟨w.heap.size, 3, none⟩ = false := HBr.out.frozen 3
  have kW2HBi0 : World.cell? _ ⟨gi, 0, none⟩ = some (.bool i.neg) := HBi.out.cell 0
  have kW2HBi1 : World.cell? _ ⟨gi, 1, none⟩ = some (.slice i.A i.k i.c) := HBi.out.cell 1
  refine (H2.out _).mono ?_
  rintro e w3 ⟨j, rfl, hj, hb3⟩
  replace HBr := Lib.hid (Blk.below (by exact HBr.out) hb3 (by exact HBr.out.lt))
  obtain ⟨sw3HBr0, sw3HBr1, sw3HBr2, sw3HBr3⟩ := Blk.c4 HBr.out
  obtain ⟨fw3HBr0, fw3HBr1, fw3HBr2, fw3HBr3⟩ := Blk.f4 HBr.out
  replace HBi := Lib.hid (Blk.below (by exact HBi.out) hb3 (by exact HBi.out.lt))
  obtain ⟨sw3HBi0, sw3HBi1⟩ := Blk.c2 HBi.out
  replace HT := Lib.hid (Rests.below (φ := Tz) (by first | exact HT.out | exact HT.out.drew) hb3)
  replace Hi := Lib.hid (Rests.below (φ := IntD i x 100) (by first | exact Hi.out | exact Hi.out.drew) hb3)
  replace Hbel := Lib.hid (Below.after (by first | exact Hbel.out | exact Below.drew Hbel.out) hb3)
  have Hj := Lib.hid hj.old
  clear hj
  clear hb3
  replace HBr := Lib.hid (HBr.out.alloc (.cells #[.bool j.neg, .slice j.A j.k j.c] 34))
  replace HBi := Lib.hid (HBi.out.alloc (.cells #[.bool j.neg, .slice j.A j.k j.c] 34))
  replace HT := Lib.hid (HT.out.alloc (.cells #[.bool j.neg, .slice j.A j.k j.c] 34))
  replace Hi := Lib.hid (Hi.out.alloc (.cells #[.bool j.neg, .slice j.A j.k j.c] 34))
  replace Hj := Lib.hid (Hj.out.alloc (.cells #[.bool j.neg, .slice j.A j.k j.c] 34))
  replace Hbel := Lib.hid (Hbel.out.alloc Hbel.out.size (.cells #[.bool j.neg, .slice j.A j.k j.c] 34))
  have HBj := Lib.hid (Blk.new w3 34 #[.bool j.neg, .slice j.A j.k j.c])
  clear sw3HBr0 sw3HBr1 sw3HBr2 sw3HBr3 sw3HBi0 sw3HBi1
  go_wp2_with fail
  generalize hW3 : w3.alloc (.cells #[.bool j.neg, .slice j.A j.k j.c] 34) = W3 at *
  generalize hgj : w3.heap.size = gj at *
  clear hW3 hgj
  have kW3HBr0 : World.cell? _ ⟨w.heap.size, 0, none⟩ = some (.bool false) := HBr.out.cell 0
  have kW3fHBr0 : World.frozen? _ ⟨w.heap.size, 0, none⟩ = false := HBr.out.frozen 0
  have kW3HBr1 : World.cell? _ ⟨w.heap.size, 1, none⟩ = some (.slice none 0 0) := HBr.out.cell 1
  have kW3fHBr1 : World.frozen? _ ⟨w.heap.size, 1, none⟩ = false := HBr.out.frozen 1
  have kW3HBr2 : World.cell? _ ⟨w.heap.size, 2, none⟩ = some (.bool false) := HBr.out.cell 2
  have kW3fHBr2 : World.frozen? _ ⟨w.heap.size, 2, none⟩ = false := HBr.out.frozen 2
  have kW3HBr3 : World.cell? _ ⟨w.heap.size, 3, none⟩ = some (.slice none 0 0) := HBr.out.cell 3
  have kW3fHBr3 : World.frozen? _ ⟨w.heap.size, 3, none⟩ = false := HBr.out.frozen 3
  have kW3HBi0 : World.cell? _ ⟨gi, 0, none⟩ = some (.bool i.neg) := HBi.out.cell 0
  have kW3HBi1 : World.cell? _ ⟨gi, 1, none⟩ = some (.slice i.A i.k i.c) := HBi.out.cell 1
  have kW3HBj0 : World.cell? _ ⟨gj, 0, none⟩ = some (.bool j.neg) := HBj.out.cell 0
  have kW3HBj1 : World.cell? _ ⟨gj, 1, none⟩ = some (.slice j.A j.k j.c) := HBj.out.cell 1
  refine (H3.out _).mono ?_
  rintro e w4 ⟨rfl, hw⟩
  have hw2 := hw.symm
  subst hw2
  go_wp2_with fail
  have hfin : RetRE (0) 11 w (.returned (.tuple #[.agg #[.bool false, .slice none 0 0, .bool false, .slice none 0 0], .int .i64 11])) ((((W3.setCell ⟨w.heap.size, 0, none⟩ (.bool false)).setCell ⟨w.heap.size, 1, none⟩ (.slice none 0 0)).setCell ⟨w.heap.size, 2, none⟩ (.bool false)).setCell ⟨w.heap.size, 3, none⟩ (.slice none 0 0)) := RetRE.of (r := zeroR) (ret_boxR (r := zeroR) (g := w.heap.size) (w2 := W3) Hbel.out (by omega) (RatN.zero_den (F := (w.heap.size + 1 ≤ ·)) (zeroN _ _) rfl rfl) (fun _ h => h))
  have b4 := box4 HBr.out (.bool false) (.slice none 0 0) (.bool false) (.slice none 0 0)
  have q0 : World.cell? ((((W3.setCell ⟨w.heap.size, 0, none⟩ (.bool false)).setCell ⟨w.heap.size, 1, none⟩ (.slice none 0 0)).setCell ⟨w.heap.size, 2, none⟩ (.bool false)).setCell ⟨w.heap.size, 3, none⟩ (.slice none 0 0)) ⟨w.heap.size, 0, none⟩ = some (.bool false) := b4.cell 0
  have q1 : World.cell? ((((W3.setCell ⟨w.heap.size, 0, none⟩ (.bool false)).setCell ⟨w.heap.size, 1, none⟩ (.slice none 0 0)).setCell ⟨w.heap.size, 2, none⟩ (.bool false)).setCell ⟨w.heap.size, 3, none⟩ (.slice none 0 0)) ⟨w.heap.size, 1, none⟩ = some (.slice none 0 0) := b4.cell 1
  have q2 : World.cell? ((((W3.setCell ⟨w.heap.size, 0, none⟩ (.bool false)).setCell ⟨w.heap.size, 1, none⟩ (.slice none 0 0)).setCell ⟨w.heap.size, 2, none⟩ (.bool false)).setCell ⟨w.heap.size, 3, none⟩ (.slice none 0 0)) ⟨w.heap.size, 2, none⟩ = some (.bool false) := b4.cell 2
  have q3 : World.cell? ((((W3.setCell ⟨w.heap.size, 0, none⟩ (.bool false)).setCell ⟨w.heap.size, 1, none⟩ (.slice none 0 0)).setCell ⟨w.heap.size, 2, none⟩ (.bool false)).setCell ⟨w.heap.size, 3, none⟩ (.slice none 0 0)) ⟨w.heap.size, 3, none⟩ = some (.slice none 0 0) := b4.cell 3
  clear b4 HBr Hbel
  generalize ((((W3.setCell ⟨w.heap.size, 0, none⟩ (.bool false)).setCell ⟨w.heap.size, 1, none⟩ (.slice none 0 0)).setCell ⟨w.heap.size, 2, none⟩ (.bool false)).setCell ⟨w.heap.size, 3, none⟩ (.slice none 0 0)) = W at *
  exact bodyPost_ret (v := .tuple #[.agg #[.bool false, .slice none 0 0, .bool false, .slice none 0 0], .int .i64 11]) (by simp [results, Tryz.results55, go_sem, q0, q1, q2, q3]) rfl hfin

set_option maxRecDepth 100000 in
set_option maxHeartbeats 2000000 in
theorem rparse_C_false (w : World) (s top bot bt : ByteArray) (p d : Nat) (x y : Int) (px : Bool) (hT : Tz w) (hbb : bot = ⟨#[49]⟩)
    (hc : ∀ W, Calls Tryz.prog 101 #[.string s, .string ⟨#[47]⟩] W fun e w' => e = .returned (.tuple #[.string top, .string bt, .bool false]) ∧ Below W.heap.size W w')
    (h1 : ∀ W, Calls Tryz.prog 102 #[.string top] W (RetPI p x W)) (h2 : ∀ W, Calls Tryz.prog 102 #[.string bot] W (RetPI d y W))
    (h3 : ∀ W, Calls Tryz.prog 103 #[.string bot, .string ⟨#[45]⟩] W fun e w' => e = .returned (.bool px) ∧ w' = W) (hp : p ≠ 11) (hd : d ≠ 11) (hx : px = true) :
    Calls Tryz.prog 55 #[.string s] w (RetRE (0) 11 w) := by
  have Hc := Lib.hid hc; have H1 := Lib.hid h1; have H2 := Lib.hid h2; have H3 := Lib.hid h3
  obtain ⟨W0, hW0⟩ : ∃ W0, W0 = (w.alloc (.cells #[.bool false, .slice none 0 0, .bool false, .slice none 0 0] 36)) := ⟨_, rfl⟩
  obtain ⟨p0, pb⟩ := lay1 hW0
  have HBr := Lib.hid p0
  have Hbel := Lib.hid pb
  have HT := Lib.hid (Rests.al1 (hT.old) hW0)
  clear p0 pb
  subst hW0
  clear hc h1 h2 h3 hT
  subst hbb
  have e1 : ((p : Int) == 11) = false := by simp; omega
  have e2 : ((d : Int) == 11) = false := by simp; omega
  subst hx
  clear hp hd
  go_enter Tryz.func55, Tryz.ntmps55
  go_wp2_with fail
  refine (Hc.out _).mono ?_
  rintro e w1 ⟨rfl, hb1⟩
  replace HBr := Lib.hid (Blk.below (by exact HBr.out) hb1 (by exact HBr.out.lt))
  obtain ⟨sw1HBr0, sw1HBr1, sw1HBr2, sw1HBr3⟩ := Blk.c4 HBr.out
  obtain ⟨fw1HBr0, fw1HBr1, fw1HBr2, fw1HBr3⟩ := Blk.f4 HBr.out
  replace HT := Lib.hid (Rests.below (φ := Tz) (by first | exact HT.out | exact HT.out.drew) hb1)
  replace Hbel := Lib.hid (Below.after (by first | exact Hbel.out | exact Below.drew Hbel.out) hb1)
  clear hb1
  go_wp2_with fail
  refine (H1.out _).mono ?_
  rintro e w2 ⟨i, rfl, hi, hb2⟩
  replace HBr := Lib.hid (Blk.below (by exact HBr.out) hb2 (by exact HBr.out.lt))
  obtain ⟨sw2HBr0, sw2HBr1, sw2HBr2, sw2HBr3⟩ := Blk.c4 HBr.out
  obtain ⟨fw2HBr0, fw2HBr1, fw2HBr2, fw2HBr3⟩ := Blk.f4 HBr.out
  replace HT := Lib.hid (Rests.below (φ := Tz) (by first | exact HT.out | exact HT.out.drew) hb2)
  replace Hbel := Lib.hid (Below.after (by first | exact Hbel.out | exact Below.drew Hbel.out) hb2)
  have Hi := Lib.hid hi.old
  clear hi
  clear hb2
  replace HBr := Lib.hid (HBr.out.alloc (.cells #[.bool i.neg, .slice i.A i.k i.c] 34))
  replace HT := Lib.hid (HT.out.alloc (.cells #[.bool i.neg, .slice i.A i.k i.c] 34))
  replace Hi := Lib.hid (Hi.out.alloc (.cells #[.bool i.neg, .slice i.A i.k i.c] 34))
  replace Hbel := Lib.hid (Hbel.out.alloc Hbel.out.size (.cells #[.bool i.neg, .slice i.A i.k i.c] 34))
  have HBi := Lib.hid (Blk.new w2 34 #[.bool i.neg, .slice i.A i.k i.c])
  clear sw2HBr0 sw2HBr1 sw2HBr2 sw2HBr3
  go_wp2_with fail
  generalize hW2 : w2.alloc (.cells #[.bool i.neg, .slice i.A i.k i.c] 34) = W2 at *
  generalize hgi : w2.heap.size = gi at *
  clear hW2 hgi
  have kW2HBr0 : World.cell? _ ⟨w.heap.size, 0, none⟩ = some (.bool false) := HBr.out.cell 0
  have kW2fHBr0 : World.frozen? _ ⟨w.heap.size, 0, none⟩ = false := HBr.out.frozen 0
  have kW2HBr1 : World.cell? _ ⟨w.heap.size, 1, none⟩ = some (.slice none 0 0) := HBr.out.cell 1
  have kW2fHBr1 : World.frozen? _ ⟨w.heap.size, 1, none⟩ = false := HBr.out.frozen 1
  have kW2HBr2 : World.cell? _ ⟨w.heap.size, 2, none⟩ = some (.bool false) := HBr.out.cell 2
  have kW2fHBr2 : World.frozen? _ ⟨w.heap.size, 2, none⟩ = false := HBr.out.frozen 2
  have kW2HBr3 : World.cell? _ ⟨w.heap.size, 3, none⟩ = some (.slice none 0 0) := HBr.out.cell 3
  have kW2fHBr3 : World.frozen? _ ⟨w.heap.size, 3, none⟩ = false := HBr.out.frozen 3
  have kW2HBi0 : World.cell? _ ⟨gi, 0, none⟩ = some (.bool i.neg) := HBi.out.cell 0
  have kW2HBi1 : World.cell? _ ⟨gi, 1, none⟩ = some (.slice i.A i.k i.c) := HBi.out.cell 1
  refine (H2.out _).mono ?_
  rintro e w3 ⟨j, rfl, hj, hb3⟩
  replace HBr := Lib.hid (Blk.below (by exact HBr.out) hb3 (by exact HBr.out.lt))
  obtain ⟨sw3HBr0, sw3HBr1, sw3HBr2, sw3HBr3⟩ := Blk.c4 HBr.out
  obtain ⟨fw3HBr0, fw3HBr1, fw3HBr2, fw3HBr3⟩ := Blk.f4 HBr.out
  replace HBi := Lib.hid (Blk.below (by exact HBi.out) hb3 (by exact HBi.out.lt))
  obtain ⟨sw3HBi0, sw3HBi1⟩ := Blk.c2 HBi.out
  replace HT := Lib.hid (Rests.below (φ := Tz) (by first | exact HT.out | exact HT.out.drew) hb3)
  replace Hi := Lib.hid (Rests.below (φ := IntD i x 100) (by first | exact Hi.out | exact Hi.out.drew) hb3)
  replace Hbel := Lib.hid (Below.after (by first | exact Hbel.out | exact Below.drew Hbel.out) hb3)
  have Hj := Lib.hid hj.old
  clear hj
  clear hb3
  replace HBr := Lib.hid (HBr.out.alloc (.cells #[.bool j.neg, .slice j.A j.k j.c] 34))
  replace HBi := Lib.hid (HBi.out.alloc (.cells #[.bool j.neg, .slice j.A j.k j.c] 34))
  replace HT := Lib.hid (HT.out.alloc (.cells #[.bool j.neg, .slice j.A j.k j.c] 34))
  replace Hi := Lib.hid (Hi.out.alloc (.cells #[.bool j.neg, .slice j.A j.k j.c] 34))
  replace Hj := Lib.hid (Hj.out.alloc (.cells #[.bool j.neg, .slice j.A j.k j.c] 34))
  replace Hbel := Lib.hid (Hbel.out.alloc Hbel.out.size (.cells #[.bool j.neg, .slice j.A j.k j.c] 34))
  have HBj := Lib.hid (Blk.new w3 34 #[.bool j.neg, .slice j.A j.k j.c])
  clear sw3HBr0 sw3HBr1 sw3HBr2 sw3HBr3 sw3HBi0 sw3HBi1
  go_wp2_with fail
  generalize hW3 : w3.alloc (.cells #[.bool j.neg, .slice j.A j.k j.c] 34) = W3 at *
  generalize hgj : w3.heap.size = gj at *
  clear hW3 hgj
  have kW3HBr0 : World.cell? _ ⟨w.heap.size, 0, none⟩ = some (.bool false) := HBr.out.cell 0
  have kW3fHBr0 : World.frozen? _ ⟨w.heap.size, 0, none⟩ = false := HBr.out.frozen 0
  have kW3HBr1 : World.cell? _ ⟨w.heap.size, 1, none⟩ = some (.slice none 0 0) := HBr.out.cell 1
  have kW3fHBr1 : World.frozen? _ ⟨w.heap.size, 1, none⟩ = false := HBr.out.frozen 1
  have kW3HBr2 : World.cell? _ ⟨w.heap.size, 2, none⟩ = some (.bool false) := HBr.out.cell 2
  have kW3fHBr2 : World.frozen? _ ⟨w.heap.size, 2, none⟩ = false := HBr.out.frozen 2
  have kW3HBr3 : World.cell? _ ⟨w.heap.size, 3, none⟩ = some (.slice none 0 0) := HBr.out.cell 3
  have kW3fHBr3 : World.frozen? _ ⟨w.heap.size, 3, none⟩ = false := HBr.out.frozen 3
  have kW3HBi0 : World.cell? _ ⟨gi, 0, none⟩ = some (.bool i.neg) := HBi.out.cell 0
  have kW3HBi1 : World.cell? _ ⟨gi, 1, none⟩ = some (.slice i.A i.k i.c) := HBi.out.cell 1
  have kW3HBj0 : World.cell? _ ⟨gj, 0, none⟩ = some (.bool j.neg) := HBj.out.cell 0
  have kW3HBj1 : World.cell? _ ⟨gj, 1, none⟩ = some (.slice j.A j.k j.c) := HBj.out.cell 1
  refine (H3.out _).mono ?_
  rintro e w4 ⟨rfl, hw⟩
  have hw2 := hw.symm
  subst hw2
  go_wp2_with fail
  have hfin : RetRE (0) 11 w (.returned (.tuple #[.agg #[.bool false, .slice none 0 0, .bool false, .slice none 0 0], .int .i64 11])) ((((W3.setCell ⟨w.heap.size, 0, none⟩ (.bool false)).setCell ⟨w.heap.size, 1, none⟩ (.slice none 0 0)).setCell ⟨w.heap.size, 2, none⟩ (.bool false)).setCell ⟨w.heap.size, 3, none⟩ (.slice none 0 0)) := RetRE.of (r := zeroR) (ret_boxR (r := zeroR) (g := w.heap.size) (w2 := W3) Hbel.out (by omega) (RatN.zero_den (F := (w.heap.size + 1 ≤ ·)) (zeroN _ _) rfl rfl) (fun _ h => h))
  have b4 := box4 HBr.out (.bool false) (.slice none 0 0) (.bool false) (.slice none 0 0)
  have q0 : World.cell? ((((W3.setCell ⟨w.heap.size, 0, none⟩ (.bool false)).setCell ⟨w.heap.size, 1, none⟩ (.slice none 0 0)).setCell ⟨w.heap.size, 2, none⟩ (.bool false)).setCell ⟨w.heap.size, 3, none⟩ (.slice none 0 0)) ⟨w.heap.size, 0, none⟩ = some (.bool false) := b4.cell 0
  have q1 : World.cell? ((((W3.setCell ⟨w.heap.size, 0, none⟩ (.bool false)).setCell ⟨w.heap.size, 1, none⟩ (.slice none 0 0)).setCell ⟨w.heap.size, 2, none⟩ (.bool false)).setCell ⟨w.heap.size, 3, none⟩ (.slice none 0 0)) ⟨w.heap.size, 1, none⟩ = some (.slice none 0 0) := b4.cell 1
  have q2 : World.cell? ((((W3.setCell ⟨w.heap.size, 0, none⟩ (.bool false)).setCell ⟨w.heap.size, 1, none⟩ (.slice none 0 0)).setCell ⟨w.heap.size, 2, none⟩ (.bool false)).setCell ⟨w.heap.size, 3, none⟩ (.slice none 0 0)) ⟨w.heap.size, 2, none⟩ = some (.bool false) := b4.cell 2
  have q3 : World.cell? ((((W3.setCell ⟨w.heap.size, 0, none⟩ (.bool false)).setCell ⟨w.heap.size, 1, none⟩ (.slice none 0 0)).setCell ⟨w.heap.size, 2, none⟩ (.bool false)).setCell ⟨w.heap.size, 3, none⟩ (.slice none 0 0)) ⟨w.heap.size, 3, none⟩ = some (.slice none 0 0) := b4.cell 3
  clear b4 HBr Hbel
  generalize ((((W3.setCell ⟨w.heap.size, 0, none⟩ (.bool false)).setCell ⟨w.heap.size, 1, none⟩ (.slice none 0 0)).setCell ⟨w.heap.size, 2, none⟩ (.bool false)).setCell ⟨w.heap.size, 3, none⟩ (.slice none 0 0)) = W at *
  exact bodyPost_ret (v := .tuple #[.agg #[.bool false, .slice none 0 0, .bool false, .slice none 0 0], .int .i64 11]) (by simp [results, Tryz.results55, go_sem, q0, q1, q2, q3]) rfl hfin

set_option maxRecDepth 100000 in
set_option maxHeartbeats 2000000 in
theorem rparse_D_true (w : World) (s top bot : ByteArray) (p d : Nat) (x y : Int) (px : Bool) (hT : Tz w)
    (hc : ∀ W, Calls Tryz.prog 101 #[.string s, .string ⟨#[47]⟩] W fun e w' => e = .returned (.tuple #[.string top, .string bot, .bool true]) ∧ Below W.heap.size W w')
    (h1 : ∀ W, Calls Tryz.prog 102 #[.string top] W (RetPI p x W)) (h2 : ∀ W, Calls Tryz.prog 102 #[.string bot] W (RetPI d y W))
    (h3 : ∀ W, Calls Tryz.prog 103 #[.string bot, .string ⟨#[45]⟩] W fun e w' => e = .returned (.bool px) ∧ w' = W) (hp : p = 3) (hd : d ≠ 11) (hx : px = false) :
    Calls Tryz.prog 55 #[.string s] w (RetRE (0) 3 w) := by
  have Hc := Lib.hid hc; have H1 := Lib.hid h1; have H2 := Lib.hid h2; have H3 := Lib.hid h3
  obtain ⟨W0, hW0⟩ : ∃ W0, W0 = (w.alloc (.cells #[.bool false, .slice none 0 0, .bool false, .slice none 0 0] 36)) := ⟨_, rfl⟩
  obtain ⟨p0, pb⟩ := lay1 hW0
  have HBr := Lib.hid p0
  have Hbel := Lib.hid pb
  have HT := Lib.hid (Rests.al1 (hT.old) hW0)
  clear p0 pb
  subst hW0
  clear hc h1 h2 h3 hT
  have e2 : ((d : Int) == 11) = false := by simp; omega
  subst hx hp
  clear hd
  go_enter Tryz.func55, Tryz.ntmps55
  go_wp2_with fail
  refine (Hc.out _).mono ?_
  rintro e w1 ⟨rfl, hb1⟩
  replace HBr := Lib.hid (Blk.below (by exact HBr.out) hb1 (by exact HBr.out.lt))
  obtain ⟨sw1HBr0, sw1HBr1, sw1HBr2, sw1HBr3⟩ := Blk.c4 HBr.out
  obtain ⟨fw1HBr0, fw1HBr1, fw1HBr2, fw1HBr3⟩ := Blk.f4 HBr.out
  replace HT := Lib.hid (Rests.below (φ := Tz) (by first | exact HT.out | exact HT.out.drew) hb1)
  replace Hbel := Lib.hid (Below.after (by first | exact Hbel.out | exact Below.drew Hbel.out) hb1)
  clear hb1
  go_wp2_with fail
  refine (H1.out _).mono ?_
  rintro e w2 ⟨i, rfl, hi, hb2⟩
  replace HBr := Lib.hid (Blk.below (by exact HBr.out) hb2 (by exact HBr.out.lt))
  obtain ⟨sw2HBr0, sw2HBr1, sw2HBr2, sw2HBr3⟩ := Blk.c4 HBr.out
  obtain ⟨fw2HBr0, fw2HBr1, fw2HBr2, fw2HBr3⟩ := Blk.f4 HBr.out
  replace HT := Lib.hid (Rests.below (φ := Tz) (by first | exact HT.out | exact HT.out.drew) hb2)
  replace Hbel := Lib.hid (Below.after (by first | exact Hbel.out | exact Below.drew Hbel.out) hb2)
  have Hi := Lib.hid hi.old
  clear hi
  clear hb2
  replace HBr := Lib.hid (HBr.out.alloc (.cells #[.bool i.neg, .slice i.A i.k i.c] 34))
  replace HT := Lib.hid (HT.out.alloc (.cells #[.bool i.neg, .slice i.A i.k i.c] 34))
  replace Hi := Lib.hid (Hi.out.alloc (.cells #[.bool i.neg, .slice i.A i.k i.c] 34))
  replace Hbel := Lib.hid (Hbel.out.alloc Hbel.out.size (.cells #[.bool i.neg, .slice i.A i.k i.c] 34))
  have HBi := Lib.hid (Blk.new w2 34 #[.bool i.neg, .slice i.A i.k i.c])
  clear sw2HBr0 sw2HBr1 sw2HBr2 sw2HBr3
  go_wp2_with fail
  generalize hW2 : w2.alloc (.cells #[.bool i.neg, .slice i.A i.k i.c] 34) = W2 at *
  generalize hgi : w2.heap.size = gi at *
  clear hW2 hgi
  have kW2HBr0 : World.cell? _ ⟨w.heap.size, 0, none⟩ = some (.bool false) := HBr.out.cell 0
  have kW2fHBr0 : World.frozen? _ ⟨w.heap.size, 0, none⟩ = false := HBr.out.frozen 0
  have kW2HBr1 : World.cell? _ ⟨w.heap.size, 1, none⟩ = some (.slice none 0 0) := HBr.out.cell 1
  have kW2fHBr1 : World.frozen? _ ⟨w.heap.size, 1, none⟩ = false := HBr.out.frozen 1
  have kW2HBr2 : World.cell? _ ⟨w.heap.size, 2, none⟩ = some (.bool false) := HBr.out.cell 2
  have kW2fHBr2 : World.frozen? _ ⟨w.heap.size, 2, none⟩ = false := HBr.out.frozen 2
  have kW2HBr3 : World.cell? _ ⟨w.heap.size, 3, none⟩ = some (.slice none 0 0) := HBr.out.cell 3
  have kW2fHBr3 : World.frozen? _ ⟨w.heap.size, 3, none⟩ = false := HBr.out.frozen 3
  have kW2HBi0 : World.cell? _ ⟨gi, 0, none⟩ = some (.bool i.neg) := HBi.out.cell 0
  have kW2HBi1 : World.cell? _ ⟨gi, 1, none⟩ = some (.slice i.A i.k i.c) := HBi.out.cell 1
  refine (H2.out _).mono ?_
  rintro e w3 ⟨j, rfl, hj, hb3⟩
  replace HBr := Lib.hid (Blk.below (by exact HBr.out) hb3 (by exact HBr.out.lt))
  obtain ⟨sw3HBr0, sw3HBr1, sw3HBr2, sw3HBr3⟩ := Blk.c4 HBr.out
  obtain ⟨fw3HBr0, fw3HBr1, fw3HBr2, fw3HBr3⟩ := Blk.f4 HBr.out
  replace HBi := Lib.hid (Blk.below (by exact HBi.out) hb3 (by exact HBi.out.lt))
  obtain ⟨sw3HBi0, sw3HBi1⟩ := Blk.c2 HBi.out
  replace HT := Lib.hid (Rests.below (φ := Tz) (by first | exact HT.out | exact HT.out.drew) hb3)
  replace Hi := Lib.hid (Rests.below (φ := IntD i x 100) (by first | exact Hi.out | exact Hi.out.drew) hb3)
  replace Hbel := Lib.hid (Below.after (by first | exact Hbel.out | exact Below.drew Hbel.out) hb3)
  have Hj := Lib.hid hj.old
  clear hj
  clear hb3
  replace HBr := Lib.hid (HBr.out.alloc (.cells #[.bool j.neg, .slice j.A j.k j.c] 34))
  replace HBi := Lib.hid (HBi.out.alloc (.cells #[.bool j.neg, .slice j.A j.k j.c] 34))
  replace HT := Lib.hid (HT.out.alloc (.cells #[.bool j.neg, .slice j.A j.k j.c] 34))
  replace Hi := Lib.hid (Hi.out.alloc (.cells #[.bool j.neg, .slice j.A j.k j.c] 34))
  replace Hj := Lib.hid (Hj.out.alloc (.cells #[.bool j.neg, .slice j.A j.k j.c] 34))
  replace Hbel := Lib.hid (Hbel.out.alloc Hbel.out.size (.cells #[.bool j.neg, .slice j.A j.k j.c] 34))
  have HBj := Lib.hid (Blk.new w3 34 #[.bool j.neg, .slice j.A j.k j.c])
  clear sw3HBr0 sw3HBr1 sw3HBr2 sw3HBr3 sw3HBi0 sw3HBi1
  go_wp2_with fail
  generalize hW3 : w3.alloc (.cells #[.bool j.neg, .slice j.A j.k j.c] 34) = W3 at *
  generalize hgj : w3.heap.size = gj at *
  clear hW3 hgj
  have kW3HBr0 : World.cell? _ ⟨w.heap.size, 0, none⟩ = some (.bool false) := HBr.out.cell 0
  have kW3fHBr0 : World.frozen? _ ⟨w.heap.size, 0, none⟩ = false := HBr.out.frozen 0
  have kW3HBr1 : World.cell? _ ⟨w.heap.size, 1, none⟩ = some (.slice none 0 0) := HBr.out.cell 1
  have kW3fHBr1 : World.frozen? _ ⟨w.heap.size, 1, none⟩ = false := HBr.out.frozen 1
  have kW3HBr2 : World.cell? _ ⟨w.heap.size, 2, none⟩ = some (.bool false) := HBr.out.cell 2
  have kW3fHBr2 : World.frozen? _ ⟨w.heap.size, 2, none⟩ = false := HBr.out.frozen 2
  have kW3HBr3 : World.cell? _ ⟨w.heap.size, 3, none⟩ = some (.slice none 0 0) := HBr.out.cell 3
  have kW3fHBr3 : World.frozen? _ ⟨w.heap.size, 3, none⟩ = false := HBr.out.frozen 3
  have kW3HBi0 : World.cell? _ ⟨gi, 0, none⟩ = some (.bool i.neg) := HBi.out.cell 0
  have kW3HBi1 : World.cell? _ ⟨gi, 1, none⟩ = some (.slice i.A i.k i.c) := HBi.out.cell 1
  have kW3HBj0 : World.cell? _ ⟨gj, 0, none⟩ = some (.bool j.neg) := HBj.out.cell 0
  have kW3HBj1 : World.cell? _ ⟨gj, 1, none⟩ = some (.slice j.A j.k j.c) := HBj.out.cell 1
  refine (H3.out _).mono ?_
  rintro e w4 ⟨rfl, hw⟩
  have hw2 := hw.symm
  subst hw2
  go_wp2_with fail
  have hfin : RetRE (0) 3 w (.returned (.tuple #[.agg #[.bool false, .slice none 0 0, .bool false, .slice none 0 0], .int .i64 3])) ((((W3.setCell ⟨w.heap.size, 0, none⟩ (.bool false)).setCell ⟨w.heap.size, 1, none⟩ (.slice none 0 0)).setCell ⟨w.heap.size, 2, none⟩ (.bool false)).setCell ⟨w.heap.size, 3, none⟩ (.slice none 0 0)) := RetRE.of (r := zeroR) (ret_boxR (r := zeroR) (g := w.heap.size) (w2 := W3) Hbel.out (by omega) (RatN.zero_den (F := (w.heap.size + 1 ≤ ·)) (zeroN _ _) rfl rfl) (fun _ h => h))
  have b4 := box4 HBr.out (.bool false) (.slice none 0 0) (.bool false) (.slice none 0 0)
  have q0 : World.cell? ((((W3.setCell ⟨w.heap.size, 0, none⟩ (.bool false)).setCell ⟨w.heap.size, 1, none⟩ (.slice none 0 0)).setCell ⟨w.heap.size, 2, none⟩ (.bool false)).setCell ⟨w.heap.size, 3, none⟩ (.slice none 0 0)) ⟨w.heap.size, 0, none⟩ = some (.bool false) := b4.cell 0
  have q1 : World.cell? ((((W3.setCell ⟨w.heap.size, 0, none⟩ (.bool false)).setCell ⟨w.heap.size, 1, none⟩ (.slice none 0 0)).setCell ⟨w.heap.size, 2, none⟩ (.bool false)).setCell ⟨w.heap.size, 3, none⟩ (.slice none 0 0)) ⟨w.heap.size, 1, none⟩ = some (.slice none 0 0) := b4.cell 1
  have q2 : World.cell? ((((W3.setCell ⟨w.heap.size, 0, none⟩ (.bool false)).setCell ⟨w.heap.size, 1, none⟩ (.slice none 0 0)).setCell ⟨w.heap.size, 2, none⟩ (.bool false)).setCell ⟨w.heap.size, 3, none⟩ (.slice none 0 0)) ⟨w.heap.size, 2, none⟩ = some (.bool false) := b4.cell 2
  have q3 : World.cell? ((((W3.setCell ⟨w.heap.size, 0, none⟩ (.bool false)).setCell ⟨w.heap.size, 1, none⟩ (.slice none 0 0)).setCell ⟨w.heap.size, 2, none⟩ (.bool false)).setCell ⟨w.heap.size, 3, none⟩ (.slice none 0 0)) ⟨w.heap.size, 3, none⟩ = some (.slice none 0 0) := b4.cell 3
  clear b4 HBr Hbel
  generalize ((((W3.setCell ⟨w.heap.size, 0, none⟩ (.bool false)).setCell ⟨w.heap.size, 1, none⟩ (.slice none 0 0)).setCell ⟨w.heap.size, 2, none⟩ (.bool false)).setCell ⟨w.heap.size, 3, none⟩ (.slice none 0 0)) = W at *
  exact bodyPost_ret (v := .tuple #[.agg #[.bool false, .slice none 0 0, .bool false, .slice none 0 0], .int .i64 3]) (by simp [results, Tryz.results55, go_sem, q0, q1, q2, q3]) rfl hfin

set_option maxRecDepth 100000 in
set_option maxHeartbeats 2000000 in
theorem rparse_D_false (w : World) (s top bot bt : ByteArray) (p d : Nat) (x y : Int) (px : Bool) (hT : Tz w) (hbb : bot = ⟨#[49]⟩)
    (hc : ∀ W, Calls Tryz.prog 101 #[.string s, .string ⟨#[47]⟩] W fun e w' => e = .returned (.tuple #[.string top, .string bt, .bool false]) ∧ Below W.heap.size W w')
    (h1 : ∀ W, Calls Tryz.prog 102 #[.string top] W (RetPI p x W)) (h2 : ∀ W, Calls Tryz.prog 102 #[.string bot] W (RetPI d y W))
    (h3 : ∀ W, Calls Tryz.prog 103 #[.string bot, .string ⟨#[45]⟩] W fun e w' => e = .returned (.bool px) ∧ w' = W) (hp : p = 3) (hd : d ≠ 11) (hx : px = false) :
    Calls Tryz.prog 55 #[.string s] w (RetRE (0) 3 w) := by
  have Hc := Lib.hid hc; have H1 := Lib.hid h1; have H2 := Lib.hid h2; have H3 := Lib.hid h3
  obtain ⟨W0, hW0⟩ : ∃ W0, W0 = (w.alloc (.cells #[.bool false, .slice none 0 0, .bool false, .slice none 0 0] 36)) := ⟨_, rfl⟩
  obtain ⟨p0, pb⟩ := lay1 hW0
  have HBr := Lib.hid p0
  have Hbel := Lib.hid pb
  have HT := Lib.hid (Rests.al1 (hT.old) hW0)
  clear p0 pb
  subst hW0
  clear hc h1 h2 h3 hT
  subst hbb
  have e2 : ((d : Int) == 11) = false := by simp; omega
  subst hx hp
  clear hd
  go_enter Tryz.func55, Tryz.ntmps55
  go_wp2_with fail
  refine (Hc.out _).mono ?_
  rintro e w1 ⟨rfl, hb1⟩
  replace HBr := Lib.hid (Blk.below (by exact HBr.out) hb1 (by exact HBr.out.lt))
  obtain ⟨sw1HBr0, sw1HBr1, sw1HBr2, sw1HBr3⟩ := Blk.c4 HBr.out
  obtain ⟨fw1HBr0, fw1HBr1, fw1HBr2, fw1HBr3⟩ := Blk.f4 HBr.out
  replace HT := Lib.hid (Rests.below (φ := Tz) (by first | exact HT.out | exact HT.out.drew) hb1)
  replace Hbel := Lib.hid (Below.after (by first | exact Hbel.out | exact Below.drew Hbel.out) hb1)
  clear hb1
  go_wp2_with fail
  refine (H1.out _).mono ?_
  rintro e w2 ⟨i, rfl, hi, hb2⟩
  replace HBr := Lib.hid (Blk.below (by exact HBr.out) hb2 (by exact HBr.out.lt))
  obtain ⟨sw2HBr0, sw2HBr1, sw2HBr2, sw2HBr3⟩ := Blk.c4 HBr.out
  obtain ⟨fw2HBr0, fw2HBr1, fw2HBr2, fw2HBr3⟩ := Blk.f4 HBr.out
  replace HT := Lib.hid (Rests.below (φ := Tz) (by first | exact HT.out | exact HT.out.drew) hb2)
  replace Hbel := Lib.hid (Below.after (by first | exact Hbel.out | exact Below.drew Hbel.out) hb2)
  have Hi := Lib.hid hi.old
  clear hi
  clear hb2
  replace HBr := Lib.hid (HBr.out.alloc (.cells #[.bool i.neg, .slice i.A i.k i.c] 34))
  replace HT := Lib.hid (HT.out.alloc (.cells #[.bool i.neg, .slice i.A i.k i.c] 34))
  replace Hi := Lib.hid (Hi.out.alloc (.cells #[.bool i.neg, .slice i.A i.k i.c] 34))
  replace Hbel := Lib.hid (Hbel.out.alloc Hbel.out.size (.cells #[.bool i.neg, .slice i.A i.k i.c] 34))
  have HBi := Lib.hid (Blk.new w2 34 #[.bool i.neg, .slice i.A i.k i.c])
  clear sw2HBr0 sw2HBr1 sw2HBr2 sw2HBr3
  go_wp2_with fail
  generalize hW2 : w2.alloc (.cells #[.bool i.neg, .slice i.A i.k i.c] 34) = W2 at *
  generalize hgi : w2.heap.size = gi at *
  clear hW2 hgi
  have kW2HBr0 : World.cell? _ ⟨w.heap.size, 0, none⟩ = some (.bool false) := HBr.out.cell 0
  have kW2fHBr0 : World.frozen? _ ⟨w.heap.size, 0, none⟩ = false := HBr.out.frozen 0
  have kW2HBr1 : World.cell? _ ⟨w.heap.size, 1, none⟩ = some (.slice none 0 0) := HBr.out.cell 1
  have kW2fHBr1 : World.frozen? _ ⟨w.heap.size, 1, none⟩ = false := HBr.out.frozen 1
  have kW2HBr2 : World.cell? _ ⟨w.heap.size, 2, none⟩ = some (.bool false) := HBr.out.cell 2
  have kW2fHBr2 : World.frozen? _ ⟨w.heap.size, 2, none⟩ = false := HBr.out.frozen 2
  have kW2HBr3 : World.cell? _ ⟨w.heap.size, 3, none⟩ = some (.slice none 0 0) := HBr.out.cell 3
  have kW2fHBr3 : World.frozen? _ ⟨w.heap.size, 3, none⟩ = false := HBr.out.frozen 3
  have kW2HBi0 : World.cell? _ ⟨gi, 0, none⟩ = some (.bool i.neg) := HBi.out.cell 0
  have kW2HBi1 : World.cell? _ ⟨gi, 1, none⟩ = some (.slice i.A i.k i.c) := HBi.out.cell 1
  refine (H2.out _).mono ?_
  rintro e w3 ⟨j, rfl, hj, hb3⟩
  replace HBr := Lib.hid (Blk.below (by exact HBr.out) hb3 (by exact HBr.out.lt))
  obtain ⟨sw3HBr0, sw3HBr1, sw3HBr2, sw3HBr3⟩ := Blk.c4 HBr.out
  obtain ⟨fw3HBr0, fw3HBr1, fw3HBr2, fw3HBr3⟩ := Blk.f4 HBr.out
  replace HBi := Lib.hid (Blk.below (by exact HBi.out) hb3 (by exact HBi.out.lt))
  obtain ⟨sw3HBi0, sw3HBi1⟩ := Blk.c2 HBi.out
  replace HT := Lib.hid (Rests.below (φ := Tz) (by first | exact HT.out | exact HT.out.drew) hb3)
  replace Hi := Lib.hid (Rests.below (φ := IntD i x 100) (by first | exact Hi.out | exact Hi.out.drew) hb3)
  replace Hbel := Lib.hid (Below.after (by first | exact Hbel.out | exact Below.drew Hbel.out) hb3)
  have Hj := Lib.hid hj.old
  clear hj
  clear hb3
  replace HBr := Lib.hid (HBr.out.alloc (.cells #[.bool j.neg, .slice j.A j.k j.c] 34))
  replace HBi := Lib.hid (HBi.out.alloc (.cells #[.bool j.neg, .slice j.A j.k j.c] 34))
  replace HT := Lib.hid (HT.out.alloc (.cells #[.bool j.neg, .slice j.A j.k j.c] 34))
  replace Hi := Lib.hid (Hi.out.alloc (.cells #[.bool j.neg, .slice j.A j.k j.c] 34))
  replace Hj := Lib.hid (Hj.out.alloc (.cells #[.bool j.neg, .slice j.A j.k j.c] 34))
  replace Hbel := Lib.hid (Hbel.out.alloc Hbel.out.size (.cells #[.bool j.neg, .slice j.A j.k j.c] 34))
  have HBj := Lib.hid (Blk.new w3 34 #[.bool j.neg, .slice j.A j.k j.c])
  clear sw3HBr0 sw3HBr1 sw3HBr2 sw3HBr3 sw3HBi0 sw3HBi1
  go_wp2_with fail
  generalize hW3 : w3.alloc (.cells #[.bool j.neg, .slice j.A j.k j.c] 34) = W3 at *
  generalize hgj : w3.heap.size = gj at *
  clear hW3 hgj
  have kW3HBr0 : World.cell? _ ⟨w.heap.size, 0, none⟩ = some (.bool false) := HBr.out.cell 0
  have kW3fHBr0 : World.frozen? _ ⟨w.heap.size, 0, none⟩ = false := HBr.out.frozen 0
  have kW3HBr1 : World.cell? _ ⟨w.heap.size, 1, none⟩ = some (.slice none 0 0) := HBr.out.cell 1
  have kW3fHBr1 : World.frozen? _ ⟨w.heap.size, 1, none⟩ = false := HBr.out.frozen 1
  have kW3HBr2 : World.cell? _ ⟨w.heap.size, 2, none⟩ = some (.bool false) := HBr.out.cell 2
  have kW3fHBr2 : World.frozen? _ ⟨w.heap.size, 2, none⟩ = false := HBr.out.frozen 2
  have kW3HBr3 : World.cell? _ ⟨w.heap.size, 3, none⟩ = some (.slice none 0 0) := HBr.out.cell 3
  have kW3fHBr3 : World.frozen? _ ⟨w.heap.size, 3, none⟩ = false := HBr.out.frozen 3
  have kW3HBi0 : World.cell? _ ⟨gi, 0, none⟩ = some (.bool i.neg) := HBi.out.cell 0
  have kW3HBi1 : World.cell? _ ⟨gi, 1, none⟩ = some (.slice i.A i.k i.c) := HBi.out.cell 1
  have kW3HBj0 : World.cell? _ ⟨gj, 0, none⟩ = some (.bool j.neg) := HBj.out.cell 0
  have kW3HBj1 : World.cell? _ ⟨gj, 1, none⟩ = some (.slice j.A j.k j.c) := HBj.out.cell 1
  refine (H3.out _).mono ?_
  rintro e w4 ⟨rfl, hw⟩
  have hw2 := hw.symm
  subst hw2
  go_wp2_with fail
  have hfin : RetRE (0) 3 w (.returned (.tuple #[.agg #[.bool false, .slice none 0 0, .bool false, .slice none 0 0], .int .i64 3])) ((((W3.setCell ⟨w.heap.size, 0, none⟩ (.bool false)).setCell ⟨w.heap.size, 1, none⟩ (.slice none 0 0)).setCell ⟨w.heap.size, 2, none⟩ (.bool false)).setCell ⟨w.heap.size, 3, none⟩ (.slice none 0 0)) := RetRE.of (r := zeroR) (ret_boxR (r := zeroR) (g := w.heap.size) (w2 := W3) Hbel.out (by omega) (RatN.zero_den (F := (w.heap.size + 1 ≤ ·)) (zeroN _ _) rfl rfl) (fun _ h => h))
  have b4 := box4 HBr.out (.bool false) (.slice none 0 0) (.bool false) (.slice none 0 0)
  have q0 : World.cell? ((((W3.setCell ⟨w.heap.size, 0, none⟩ (.bool false)).setCell ⟨w.heap.size, 1, none⟩ (.slice none 0 0)).setCell ⟨w.heap.size, 2, none⟩ (.bool false)).setCell ⟨w.heap.size, 3, none⟩ (.slice none 0 0)) ⟨w.heap.size, 0, none⟩ = some (.bool false) := b4.cell 0
  have q1 : World.cell? ((((W3.setCell ⟨w.heap.size, 0, none⟩ (.bool false)).setCell ⟨w.heap.size, 1, none⟩ (.slice none 0 0)).setCell ⟨w.heap.size, 2, none⟩ (.bool false)).setCell ⟨w.heap.size, 3, none⟩ (.slice none 0 0)) ⟨w.heap.size, 1, none⟩ = some (.slice none 0 0) := b4.cell 1
  have q2 : World.cell? ((((W3.setCell ⟨w.heap.size, 0, none⟩ (.bool false)).setCell ⟨w.heap.size, 1, none⟩ (.slice none 0 0)).setCell ⟨w.heap.size, 2, none⟩ (.bool false)).setCell ⟨w.heap.size, 3, none⟩ (.slice none 0 0)) ⟨w.heap.size, 2, none⟩ = some (.bool false) := b4.cell 2
  have q3 : World.cell? ((((W3.setCell ⟨w.heap.size, 0, none⟩ (.bool false)).setCell ⟨w.heap.size, 1, none⟩ (.slice none 0 0)).setCell ⟨w.heap.size, 2, none⟩ (.bool false)).setCell ⟨w.heap.size, 3, none⟩ (.slice none 0 0)) ⟨w.heap.size, 3, none⟩ = some (.slice none 0 0) := b4.cell 3
  clear b4 HBr Hbel
  generalize ((((W3.setCell ⟨w.heap.size, 0, none⟩ (.bool false)).setCell ⟨w.heap.size, 1, none⟩ (.slice none 0 0)).setCell ⟨w.heap.size, 2, none⟩ (.bool false)).setCell ⟨w.heap.size, 3, none⟩ (.slice none 0 0)) = W at *
  exact bodyPost_ret (v := .tuple #[.agg #[.bool false, .slice none 0 0, .bool false, .slice none 0 0], .int .i64 3]) (by simp [results, Tryz.results55, go_sem, q0, q1, q2, q3]) rfl hfin

set_option maxRecDepth 100000 in
set_option maxHeartbeats 2000000 in
theorem rparse_E_true (w : World) (s top bot : ByteArray) (p d : Nat) (x y : Int) (px : Bool) (hT : Tz w)
    (hc : ∀ W, Calls Tryz.prog 101 #[.string s, .string ⟨#[47]⟩] W fun e w' => e = .returned (.tuple #[.string top, .string bot, .bool true]) ∧ Below W.heap.size W w')
    (h1 : ∀ W, Calls Tryz.prog 102 #[.string top] W (RetPI p x W)) (h2 : ∀ W, Calls Tryz.prog 102 #[.string bot] W (RetPI d y W))
    (h3 : ∀ W, Calls Tryz.prog 103 #[.string bot, .string ⟨#[45]⟩] W fun e w' => e = .returned (.bool px) ∧ w' = W) (hp : p = 0) (hd : d = 3) (hx : px = false) :
    Calls Tryz.prog 55 #[.string s] w (RetRE (0) 3 w) := by
  have Hc := Lib.hid hc; have H1 := Lib.hid h1; have H2 := Lib.hid h2; have H3 := Lib.hid h3
  obtain ⟨W0, hW0⟩ : ∃ W0, W0 = (w.alloc (.cells #[.bool false, .slice none 0 0, .bool false, .slice none 0 0] 36)) := ⟨_, rfl⟩
  obtain ⟨p0, pb⟩ := lay1 hW0
  have HBr := Lib.hid p0
  have Hbel := Lib.hid pb
  have HT := Lib.hid (Rests.al1 (hT.old) hW0)
  clear p0 pb
  subst hW0
  clear hc h1 h2 h3 hT
  subst hp hd hx
  go_enter Tryz.func55, Tryz.ntmps55
  go_wp2_with fail
  refine (Hc.out _).mono ?_
  rintro e w1 ⟨rfl, hb1⟩
  replace HBr := Lib.hid (Blk.below (by exact HBr.out) hb1 (by exact HBr.out.lt))
  obtain ⟨sw1HBr0, sw1HBr1, sw1HBr2, sw1HBr3⟩ := Blk.c4 HBr.out
  obtain ⟨fw1HBr0, fw1HBr1, fw1HBr2, fw1HBr3⟩ := Blk.f4 HBr.out
  replace HT := Lib.hid (Rests.below (φ := Tz) (by first | exact HT.out | exact HT.out.drew) hb1)
  replace Hbel := Lib.hid (Below.after (by first | exact Hbel.out | exact Below.drew Hbel.out) hb1)
  clear hb1
  go_wp2_with fail
  refine (H1.out _).mono ?_
  rintro e w2 ⟨i, rfl, hi, hb2⟩
  replace HBr := Lib.hid (Blk.below (by exact HBr.out) hb2 (by exact HBr.out.lt))
  obtain ⟨sw2HBr0, sw2HBr1, sw2HBr2, sw2HBr3⟩ := Blk.c4 HBr.out
  obtain ⟨fw2HBr0, fw2HBr1, fw2HBr2, fw2HBr3⟩ := Blk.f4 HBr.out
  replace HT := Lib.hid (Rests.below (φ := Tz) (by first | exact HT.out | exact HT.out.drew) hb2)
  replace Hbel := Lib.hid (Below.after (by first | exact Hbel.out | exact Below.drew Hbel.out) hb2)
  have Hi := Lib.hid hi.old
  clear hi
  clear hb2
  replace HBr := Lib.hid (HBr.out.alloc (.cells #[.bool i.neg, .slice i.A i.k i.c] 34))
  replace HT := Lib.hid (HT.out.alloc (.cells #[.bool i.neg, .slice i.A i.k i.c] 34))
  replace Hi := Lib.hid (Hi.out.alloc (.cells #[.bool i.neg, .slice i.A i.k i.c] 34))
  replace Hbel := Lib.hid (Hbel.out.alloc Hbel.out.size (.cells #[.bool i.neg, .slice i.A i.k i.c] 34))
  have HBi := Lib.hid (Blk.new w2 34 #[.bool i.neg, .slice i.A i.k i.c])
  clear sw2HBr0 sw2HBr1 sw2HBr2 sw2HBr3
  go_wp2_with fail
  generalize hW2 : w2.alloc (.cells #[.bool i.neg, .slice i.A i.k i.c] 34) = W2 at *
  generalize hgi : w2.heap.size = gi at *
  clear hW2 hgi
  have kW2HBr0 : World.cell? _ ⟨w.heap.size, 0, none⟩ = some (.bool false) := HBr.out.cell 0
  have kW2fHBr0 : World.frozen? _ ⟨w.heap.size, 0, none⟩ = false := HBr.out.frozen 0
  have kW2HBr1 : World.cell? _ ⟨w.heap.size, 1, none⟩ = some (.slice none 0 0) := HBr.out.cell 1
  have kW2fHBr1 : World.frozen? _ ⟨w.heap.size, 1, none⟩ = false := HBr.out.frozen 1
  have kW2HBr2 : World.cell? _ ⟨w.heap.size, 2, none⟩ = some (.bool false) := HBr.out.cell 2
  have kW2fHBr2 : World.frozen? _ ⟨w.heap.size, 2, none⟩ = false := HBr.out.frozen 2
  have kW2HBr3 : World.cell? _ ⟨w.heap.size, 3, none⟩ = some (.slice none 0 0) := HBr.out.cell 3
  have kW2fHBr3 : World.frozen? _ ⟨w.heap.size, 3, none⟩ = false := HBr.out.frozen 3
  have kW2HBi0 : World.cell? _ ⟨gi, 0, none⟩ = some (.bool i.neg) := HBi.out.cell 0
  have kW2HBi1 : World.cell? _ ⟨gi, 1, none⟩ = some (.slice i.A i.k i.c) := HBi.out.cell 1
  refine (H2.out _).mono ?_
  rintro e w3 ⟨j, rfl, hj, hb3⟩
  replace HBr := Lib.hid (Blk.below (by exact HBr.out) hb3 (by exact HBr.out.lt))
  obtain ⟨sw3HBr0, sw3HBr1, sw3HBr2, sw3HBr3⟩ := Blk.c4 HBr.out
  obtain ⟨fw3HBr0, fw3HBr1, fw3HBr2, fw3HBr3⟩ := Blk.f4 HBr.out
  replace HBi := Lib.hid (Blk.below (by exact HBi.out) hb3 (by exact HBi.out.lt))
  obtain ⟨sw3HBi0, sw3HBi1⟩ := Blk.c2 HBi.out
  replace HT := Lib.hid (Rests.below (φ := Tz) (by first | exact HT.out | exact HT.out.drew) hb3)
  replace Hi := Lib.hid (Rests.below (φ := IntD i x 100) (by first | exact Hi.out | exact Hi.out.drew) hb3)
  replace Hbel := Lib.hid (Below.after (by first | exact Hbel.out | exact Below.drew Hbel.out) hb3)
  have Hj := Lib.hid hj.old
  clear hj
  clear hb3
  replace HBr := Lib.hid (HBr.out.alloc (.cells #[.bool j.neg, .slice j.A j.k j.c] 34))
  replace HBi := Lib.hid (HBi.out.alloc (.cells #[.bool j.neg, .slice j.A j.k j.c] 34))
  replace HT := Lib.hid (HT.out.alloc (.cells #[.bool j.neg, .slice j.A j.k j.c] 34))
  replace Hi := Lib.hid (Hi.out.alloc (.cells #[.bool j.neg, .slice j.A j.k j.c] 34))
  replace Hj := Lib.hid (Hj.out.alloc (.cells #[.bool j.neg, .slice j.A j.k j.c] 34))
  replace Hbel := Lib.hid (Hbel.out.alloc Hbel.out.size (.cells #[.bool j.neg, .slice j.A j.k j.c] 34))
  have HBj := Lib.hid (Blk.new w3 34 #[.bool j.neg, .slice j.A j.k j.c])
  clear sw3HBr0 sw3HBr1 sw3HBr2 sw3HBr3 sw3HBi0 sw3HBi1
  go_wp2_with fail
  generalize hW3 : w3.alloc (.cells #[.bool j.neg, .slice j.A j.k j.c] 34) = W3 at *
  generalize hgj : w3.heap.size = gj at *
  clear hW3 hgj
  have kW3HBr0 : World.cell? _ ⟨w.heap.size, 0, none⟩ = some (.bool false) := HBr.out.cell 0
  have kW3fHBr0 : World.frozen? _ ⟨w.heap.size, 0, none⟩ = false := HBr.out.frozen 0
  have kW3HBr1 : World.cell? _ ⟨w.heap.size, 1, none⟩ = some (.slice none 0 0) := HBr.out.cell 1
  have kW3fHBr1 : World.frozen? _ ⟨w.heap.size, 1, none⟩ = false := HBr.out.frozen 1
  have kW3HBr2 : World.cell? _ ⟨w.heap.size, 2, none⟩ = some (.bool false) := HBr.out.cell 2
  have kW3fHBr2 : World.frozen? _ ⟨w.heap.size, 2, none⟩ = false := HBr.out.frozen 2
  have kW3HBr3 : World.cell? _ ⟨w.heap.size, 3, none⟩ = some (.slice none 0 0) := HBr.out.cell 3
  have kW3fHBr3 : World.frozen? _ ⟨w.heap.size, 3, none⟩ = false := HBr.out.frozen 3
  have kW3HBi0 : World.cell? _ ⟨gi, 0, none⟩ = some (.bool i.neg) := HBi.out.cell 0
  have kW3HBi1 : World.cell? _ ⟨gi, 1, none⟩ = some (.slice i.A i.k i.c) := HBi.out.cell 1
  have kW3HBj0 : World.cell? _ ⟨gj, 0, none⟩ = some (.bool j.neg) := HBj.out.cell 0
  have kW3HBj1 : World.cell? _ ⟨gj, 1, none⟩ = some (.slice j.A j.k j.c) := HBj.out.cell 1
  refine (H3.out _).mono ?_
  rintro e w4 ⟨rfl, hw⟩
  have hw2 := hw.symm
  subst hw2
  go_wp2_with fail
  have hfin : RetRE (0) 3 w (.returned (.tuple #[.agg #[.bool false, .slice none 0 0, .bool false, .slice none 0 0], .int .i64 3])) ((((W3.setCell ⟨w.heap.size, 0, none⟩ (.bool false)).setCell ⟨w.heap.size, 1, none⟩ (.slice none 0 0)).setCell ⟨w.heap.size, 2, none⟩ (.bool false)).setCell ⟨w.heap.size, 3, none⟩ (.slice none 0 0)) := RetRE.of (r := zeroR) (ret_boxR (r := zeroR) (g := w.heap.size) (w2 := W3) Hbel.out (by omega) (RatN.zero_den (F := (w.heap.size + 1 ≤ ·)) (zeroN _ _) rfl rfl) (fun _ h => h))
  have b4 := box4 HBr.out (.bool false) (.slice none 0 0) (.bool false) (.slice none 0 0)
  have q0 : World.cell? ((((W3.setCell ⟨w.heap.size, 0, none⟩ (.bool false)).setCell ⟨w.heap.size, 1, none⟩ (.slice none 0 0)).setCell ⟨w.heap.size, 2, none⟩ (.bool false)).setCell ⟨w.heap.size, 3, none⟩ (.slice none 0 0)) ⟨w.heap.size, 0, none⟩ = some (.bool false) := b4.cell 0
  have q1 : World.cell? ((((W3.setCell ⟨w.heap.size, 0, none⟩ (.bool false)).setCell ⟨w.heap.size, 1, none⟩ (.slice none 0 0)).setCell ⟨w.heap.size, 2, none⟩ (.bool false)).setCell ⟨w.heap.size, 3, none⟩ (.slice none 0 0)) ⟨w.heap.size, 1, none⟩ = some (.slice none 0 0) := b4.cell 1
  have q2 : World.cell? ((((W3.setCell ⟨w.heap.size, 0, none⟩ (.bool false)).setCell ⟨w.heap.size, 1, none⟩ (.slice none 0 0)).setCell ⟨w.heap.size, 2, none⟩ (.bool false)).setCell ⟨w.heap.size, 3, none⟩ (.slice none 0 0)) ⟨w.heap.size, 2, none⟩ = some (.bool false) := b4.cell 2
  have q3 : World.cell? ((((W3.setCell ⟨w.heap.size, 0, none⟩ (.bool false)).setCell ⟨w.heap.size, 1, none⟩ (.slice none 0 0)).setCell ⟨w.heap.size, 2, none⟩ (.bool false)).setCell ⟨w.heap.size, 3, none⟩ (.slice none 0 0)) ⟨w.heap.size, 3, none⟩ = some (.slice none 0 0) := b4.cell 3
  clear b4 HBr Hbel
  generalize ((((W3.setCell ⟨w.heap.size, 0, none⟩ (.bool false)).setCell ⟨w.heap.size, 1, none⟩ (.slice none 0 0)).setCell ⟨w.heap.size, 2, none⟩ (.bool false)).setCell ⟨w.heap.size, 3, none⟩ (.slice none 0 0)) = W at *
  exact bodyPost_ret (v := .tuple #[.agg #[.bool false, .slice none 0 0, .bool false, .slice none 0 0], .int .i64 3]) (by simp [results, Tryz.results55, go_sem, q0, q1, q2, q3]) rfl hfin

set_option maxRecDepth 100000 in
set_option maxHeartbeats 2000000 in
theorem rparse_E_false (w : World) (s top bot bt : ByteArray) (p d : Nat) (x y : Int) (px : Bool) (hT : Tz w) (hbb : bot = ⟨#[49]⟩)
    (hc : ∀ W, Calls Tryz.prog 101 #[.string s, .string ⟨#[47]⟩] W fun e w' => e = .returned (.tuple #[.string top, .string bt, .bool false]) ∧ Below W.heap.size W w')
    (h1 : ∀ W, Calls Tryz.prog 102 #[.string top] W (RetPI p x W)) (h2 : ∀ W, Calls Tryz.prog 102 #[.string bot] W (RetPI d y W))
    (h3 : ∀ W, Calls Tryz.prog 103 #[.string bot, .string ⟨#[45]⟩] W fun e w' => e = .returned (.bool px) ∧ w' = W) (hp : p = 0) (hd : d = 3) (hx : px = false) :
    Calls Tryz.prog 55 #[.string s] w (RetRE (0) 3 w) := by
  have Hc := Lib.hid hc; have H1 := Lib.hid h1; have H2 := Lib.hid h2; have H3 := Lib.hid h3
  obtain ⟨W0, hW0⟩ : ∃ W0, W0 = (w.alloc (.cells #[.bool false, .slice none 0 0, .bool false, .slice none 0 0] 36)) := ⟨_, rfl⟩
  obtain ⟨p0, pb⟩ := lay1 hW0
  have HBr := Lib.hid p0
  have Hbel := Lib.hid pb
  have HT := Lib.hid (Rests.al1 (hT.old) hW0)
  clear p0 pb
  subst hW0
  clear hc h1 h2 h3 hT
  subst hbb
  subst hp hd hx
  go_enter Tryz.func55, Tryz.ntmps55
  go_wp2_with fail
  refine (Hc.out _).mono ?_
  rintro e w1 ⟨rfl, hb1⟩
  replace HBr := Lib.hid (Blk.below (by exact HBr.out) hb1 (by exact HBr.out.lt))
  obtain ⟨sw1HBr0, sw1HBr1, sw1HBr2, sw1HBr3⟩ := Blk.c4 HBr.out
  obtain ⟨fw1HBr0, fw1HBr1, fw1HBr2, fw1HBr3⟩ := Blk.f4 HBr.out
  replace HT := Lib.hid (Rests.below (φ := Tz) (by first | exact HT.out | exact HT.out.drew) hb1)
  replace Hbel := Lib.hid (Below.after (by first | exact Hbel.out | exact Below.drew Hbel.out) hb1)
  clear hb1
  go_wp2_with fail
  refine (H1.out _).mono ?_
  rintro e w2 ⟨i, rfl, hi, hb2⟩
  replace HBr := Lib.hid (Blk.below (by exact HBr.out) hb2 (by exact HBr.out.lt))
  obtain ⟨sw2HBr0, sw2HBr1, sw2HBr2, sw2HBr3⟩ := Blk.c4 HBr.out
  obtain ⟨fw2HBr0, fw2HBr1, fw2HBr2, fw2HBr3⟩ := Blk.f4 HBr.out
  replace HT := Lib.hid (Rests.below (φ := Tz) (by first | exact HT.out | exact HT.out.drew) hb2)
  replace Hbel := Lib.hid (Below.after (by first | exact Hbel.out | exact Below.drew Hbel.out) hb2)
  have Hi := Lib.hid hi.old
  clear hi
  clear hb2
  replace HBr := Lib.hid (HBr.out.alloc (.cells #[.bool i.neg, .slice i.A i.k i.c] 34))
  replace HT := Lib.hid (HT.out.alloc (.cells #[.bool i.neg, .slice i.A i.k i.c] 34))
  replace Hi := Lib.hid (Hi.out.alloc (.cells #[.bool i.neg, .slice i.A i.k i.c] 34))
  replace Hbel := Lib.hid (Hbel.out.alloc Hbel.out.size (.cells #[.bool i.neg, .slice i.A i.k i.c] 34))
  have HBi := Lib.hid (Blk.new w2 34 #[.bool i.neg, .slice i.A i.k i.c])
  clear sw2HBr0 sw2HBr1 sw2HBr2 sw2HBr3
  go_wp2_with fail
  generalize hW2 : w2.alloc (.cells #[.bool i.neg, .slice i.A i.k i.c] 34) = W2 at *
  generalize hgi : w2.heap.size = gi at *
  clear hW2 hgi
  have kW2HBr0 : World.cell? _ ⟨w.heap.size, 0, none⟩ = some (.bool false) := HBr.out.cell 0
  have kW2fHBr0 : World.frozen? _ ⟨w.heap.size, 0, none⟩ = false := HBr.out.frozen 0
  have kW2HBr1 : World.cell? _ ⟨w.heap.size, 1, none⟩ = some (.slice none 0 0) := HBr.out.cell 1
  have kW2fHBr1 : World.frozen? _ ⟨w.heap.size, 1, none⟩ = false := HBr.out.frozen 1
  have kW2HBr2 : World.cell? _ ⟨w.heap.size, 2, none⟩ = some (.bool false) := HBr.out.cell 2
  have kW2fHBr2 : World.frozen? _ ⟨w.heap.size, 2, none⟩ = false := HBr.out.frozen 2
  have kW2HBr3 : World.cell? _ ⟨w.heap.size, 3, none⟩ = some (.slice none 0 0) := HBr.out.cell 3
  have kW2fHBr3 : World.frozen? _ ⟨w.heap.size, 3, none⟩ = false := HBr.out.frozen 3
  have kW2HBi0 : World.cell? _ ⟨gi, 0, none⟩ = some (.bool i.neg) := HBi.out.cell 0
  have kW2HBi1 : World.cell? _ ⟨gi, 1, none⟩ = some (.slice i.A i.k i.c) := HBi.out.cell 1
  refine (H2.out _).mono ?_
  rintro e w3 ⟨j, rfl, hj, hb3⟩
  replace HBr := Lib.hid (Blk.below (by exact HBr.out) hb3 (by exact HBr.out.lt))
  obtain ⟨sw3HBr0, sw3HBr1, sw3HBr2, sw3HBr3⟩ := Blk.c4 HBr.out
  obtain ⟨fw3HBr0, fw3HBr1, fw3HBr2, fw3HBr3⟩ := Blk.f4 HBr.out
  replace HBi := Lib.hid (Blk.below (by exact HBi.out) hb3 (by exact HBi.out.lt))
  obtain ⟨sw3HBi0, sw3HBi1⟩ := Blk.c2 HBi.out
  replace HT := Lib.hid (Rests.below (φ := Tz) (by first | exact HT.out | exact HT.out.drew) hb3)
  replace Hi := Lib.hid (Rests.below (φ := IntD i x 100) (by first | exact Hi.out | exact Hi.out.drew) hb3)
  replace Hbel := Lib.hid (Below.after (by first | exact Hbel.out | exact Below.drew Hbel.out) hb3)
  have Hj := Lib.hid hj.old
  clear hj
  clear hb3
  replace HBr := Lib.hid (HBr.out.alloc (.cells #[.bool j.neg, .slice j.A j.k j.c] 34))
  replace HBi := Lib.hid (HBi.out.alloc (.cells #[.bool j.neg, .slice j.A j.k j.c] 34))
  replace HT := Lib.hid (HT.out.alloc (.cells #[.bool j.neg, .slice j.A j.k j.c] 34))
  replace Hi := Lib.hid (Hi.out.alloc (.cells #[.bool j.neg, .slice j.A j.k j.c] 34))
  replace Hj := Lib.hid (Hj.out.alloc (.cells #[.bool j.neg, .slice j.A j.k j.c] 34))
  replace Hbel := Lib.hid (Hbel.out.alloc Hbel.out.size (.cells #[.bool j.neg, .slice j.A j.k j.c] 34))
  have HBj := Lib.hid (Blk.new w3 34 #[.bool j.neg, .slice j.A j.k j.c])
  clear sw3HBr0 sw3HBr1 sw3HBr2 sw3HBr3 sw3HBi0 sw3HBi1
  go_wp2_with fail
  generalize hW3 : w3.alloc (.cells #[.bool j.neg, .slice j.A j.k j.c] 34) = W3 at *
  generalize hgj : w3.heap.size = gj at *
  clear hW3 hgj
  have kW3HBr0 : World.cell? _ ⟨w.heap.size, 0, none⟩ = some (.bool false) := HBr.out.cell 0
  have kW3fHBr0 : World.frozen? _ ⟨w.heap.size, 0, none⟩ = false := HBr.out.frozen 0
  have kW3HBr1 : World.cell? _ ⟨w.heap.size, 1, none⟩ = some (.slice none 0 0) := HBr.out.cell 1
  have kW3fHBr1 : World.frozen? _ ⟨w.heap.size, 1, none⟩ = false := HBr.out.frozen 1
  have kW3HBr2 : World.cell? _ ⟨w.heap.size, 2, none⟩ = some (.bool false) := HBr.out.cell 2
  have kW3fHBr2 : World.frozen? _ ⟨w.heap.size, 2, none⟩ = false := HBr.out.frozen 2
  have kW3HBr3 : World.cell? _ ⟨w.heap.size, 3, none⟩ = some (.slice none 0 0) := HBr.out.cell 3
  have kW3fHBr3 : World.frozen? _ ⟨w.heap.size, 3, none⟩ = false := HBr.out.frozen 3
  have kW3HBi0 : World.cell? _ ⟨gi, 0, none⟩ = some (.bool i.neg) := HBi.out.cell 0
  have kW3HBi1 : World.cell? _ ⟨gi, 1, none⟩ = some (.slice i.A i.k i.c) := HBi.out.cell 1
  have kW3HBj0 : World.cell? _ ⟨gj, 0, none⟩ = some (.bool j.neg) := HBj.out.cell 0
  have kW3HBj1 : World.cell? _ ⟨gj, 1, none⟩ = some (.slice j.A j.k j.c) := HBj.out.cell 1
  refine (H3.out _).mono ?_
  rintro e w4 ⟨rfl, hw⟩
  have hw2 := hw.symm
  subst hw2
  go_wp2_with fail
  have hfin : RetRE (0) 3 w (.returned (.tuple #[.agg #[.bool false, .slice none 0 0, .bool false, .slice none 0 0], .int .i64 3])) ((((W3.setCell ⟨w.heap.size, 0, none⟩ (.bool false)).setCell ⟨w.heap.size, 1, none⟩ (.slice none 0 0)).setCell ⟨w.heap.size, 2, none⟩ (.bool false)).setCell ⟨w.heap.size, 3, none⟩ (.slice none 0 0)) := RetRE.of (r := zeroR) (ret_boxR (r := zeroR) (g := w.heap.size) (w2 := W3) Hbel.out (by omega) (RatN.zero_den (F := (w.heap.size + 1 ≤ ·)) (zeroN _ _) rfl rfl) (fun _ h => h))
  have b4 := box4 HBr.out (.bool false) (.slice none 0 0) (.bool false) (.slice none 0 0)
  have q0 : World.cell? ((((W3.setCell ⟨w.heap.size, 0, none⟩ (.bool false)).setCell ⟨w.heap.size, 1, none⟩ (.slice none 0 0)).setCell ⟨w.heap.size, 2, none⟩ (.bool false)).setCell ⟨w.heap.size, 3, none⟩ (.slice none 0 0)) ⟨w.heap.size, 0, none⟩ = some (.bool false) := b4.cell 0
  have q1 : World.cell? ((((W3.setCell ⟨w.heap.size, 0, none⟩ (.bool false)).setCell ⟨w.heap.size, 1, none⟩ (.slice none 0 0)).setCell ⟨w.heap.size, 2, none⟩ (.bool false)).setCell ⟨w.heap.size, 3, none⟩ (.slice none 0 0)) ⟨w.heap.size, 1, none⟩ = some (.slice none 0 0) := b4.cell 1
  have q2 : World.cell? ((((W3.setCell ⟨w.heap.size, 0, none⟩ (.bool false)).setCell ⟨w.heap.size, 1, none⟩ (.slice none 0 0)).setCell ⟨w.heap.size, 2, none⟩ (.bool false)).setCell ⟨w.heap.size, 3, none⟩ (.slice none 0 0)) ⟨w.heap.size, 2, none⟩ = some (.bool false) := b4.cell 2
  have q3 : World.cell? ((((W3.setCell ⟨w.heap.size, 0, none⟩ (.bool false)).setCell ⟨w.heap.size, 1, none⟩ (.slice none 0 0)).setCell ⟨w.heap.size, 2, none⟩ (.bool false)).setCell ⟨w.heap.size, 3, none⟩ (.slice none 0 0)) ⟨w.heap.size, 3, none⟩ = some (.slice none 0 0) := b4.cell 3
  clear b4 HBr Hbel
  generalize ((((W3.setCell ⟨w.heap.size, 0, none⟩ (.bool false)).setCell ⟨w.heap.size, 1, none⟩ (.slice none 0 0)).setCell ⟨w.heap.size, 2, none⟩ (.bool false)).setCell ⟨w.heap.size, 3, none⟩ (.slice none 0 0)) = W at *
  exact bodyPost_ret (v := .tuple #[.agg #[.bool false, .slice none 0 0, .bool false, .slice none 0 0], .int .i64 3]) (by simp [results, Tryz.results55, go_sem, q0, q1, q2, q3]) rfl hfin

set_option maxRecDepth 100000 in
set_option maxHeartbeats 2000000 in
theorem rparse_F_true (w : World) (s top bot : ByteArray) (p d : Nat) (x y : Int) (px : Bool) (hT : Tz w)
    (hc : ∀ W, Calls Tryz.prog 101 #[.string s, .string ⟨#[47]⟩] W fun e w' => e = .returned (.tuple #[.string top, .string bot, .bool true]) ∧ Below W.heap.size W w')
    (h1 : ∀ W, Calls Tryz.prog 102 #[.string top] W (RetPI p x W)) (h2 : ∀ W, Calls Tryz.prog 102 #[.string bot] W (RetPI d y W))
    (h3 : ∀ W, Calls Tryz.prog 103 #[.string bot, .string ⟨#[45]⟩] W fun e w' => e = .returned (.bool px) ∧ w' = W) (hp : p = 0) (hd : d = 0) (hx : px = false) (hy : y.sign = 0) :
    Calls Tryz.prog 55 #[.string s] w (RetRE (0) 10 w) := by
  have Hc := Lib.hid hc; have H1 := Lib.hid h1; have H2 := Lib.hid h2; have H3 := Lib.hid h3
  obtain ⟨W0, hW0⟩ : ∃ W0, W0 = (w.alloc (.cells #[.bool false, .slice none 0 0, .bool false, .slice none 0 0] 36)) := ⟨_, rfl⟩
  obtain ⟨p0, pb⟩ := lay1 hW0
  have HBr := Lib.hid p0
  have Hbel := Lib.hid pb
  have HT := Lib.hid (Rests.al1 (hT.old) hW0)
  clear p0 pb
  subst hW0
  clear hc h1 h2 h3 hT
  subst hp hd hx
  have Hy := Lib.hid hy
  clear hy
  go_enter Tryz.func55, Tryz.ntmps55
  go_wp2_with fail
  refine (Hc.out _).mono ?_
  rintro e w1 ⟨rfl, hb1⟩
  replace HBr := Lib.hid (Blk.below (by exact HBr.out) hb1 (by exact HBr.out.lt))
  obtain ⟨sw1HBr0, sw1HBr1, sw1HBr2, sw1HBr3⟩ := Blk.c4 HBr.out
  obtain ⟨fw1HBr0, fw1HBr1, fw1HBr2, fw1HBr3⟩ := Blk.f4 HBr.out
  replace HT := Lib.hid (Rests.below (φ := Tz) (by first | exact HT.out | exact HT.out.drew) hb1)
  replace Hbel := Lib.hid (Below.after (by first | exact Hbel.out | exact Below.drew Hbel.out) hb1)
  clear hb1
  go_wp2_with fail
  refine (H1.out _).mono ?_
  rintro e w2 ⟨i, rfl, hi, hb2⟩
  replace HBr := Lib.hid (Blk.below (by exact HBr.out) hb2 (by exact HBr.out.lt))
  obtain ⟨sw2HBr0, sw2HBr1, sw2HBr2, sw2HBr3⟩ := Blk.c4 HBr.out
  obtain ⟨fw2HBr0, fw2HBr1, fw2HBr2, fw2HBr3⟩ := Blk.f4 HBr.out
  replace HT := Lib.hid (Rests.below (φ := Tz) (by first | exact HT.out | exact HT.out.drew) hb2)
  replace Hbel := Lib.hid (Below.after (by first | exact Hbel.out | exact Below.drew Hbel.out) hb2)
  have Hi := Lib.hid hi.old
  clear hi
  clear hb2
  replace HBr := Lib.hid (HBr.out.alloc (.cells #[.bool i.neg, .slice i.A i.k i.c] 34))
  replace HT := Lib.hid (HT.out.alloc (.cells #[.bool i.neg, .slice i.A i.k i.c] 34))
  replace Hi := Lib.hid (Hi.out.alloc (.cells #[.bool i.neg, .slice i.A i.k i.c] 34))
  replace Hbel := Lib.hid (Hbel.out.alloc Hbel.out.size (.cells #[.bool i.neg, .slice i.A i.k i.c] 34))
  have HBi := Lib.hid (Blk.new w2 34 #[.bool i.neg, .slice i.A i.k i.c])
  clear sw2HBr0 sw2HBr1 sw2HBr2 sw2HBr3
  go_wp2_with fail
  generalize hW2 : w2.alloc (.cells #[.bool i.neg, .slice i.A i.k i.c] 34) = W2 at *
  generalize hgi : w2.heap.size = gi at *
  clear hW2 hgi
  have kW2HBr0 : World.cell? _ ⟨w.heap.size, 0, none⟩ = some (.bool false) := HBr.out.cell 0
  have kW2fHBr0 : World.frozen? _ ⟨w.heap.size, 0, none⟩ = false := HBr.out.frozen 0
  have kW2HBr1 : World.cell? _ ⟨w.heap.size, 1, none⟩ = some (.slice none 0 0) := HBr.out.cell 1
  have kW2fHBr1 : World.frozen? _ ⟨w.heap.size, 1, none⟩ = false := HBr.out.frozen 1
  have kW2HBr2 : World.cell? _ ⟨w.heap.size, 2, none⟩ = some (.bool false) := HBr.out.cell 2
  have kW2fHBr2 : World.frozen? _ ⟨w.heap.size, 2, none⟩ = false := HBr.out.frozen 2
  have kW2HBr3 : World.cell? _ ⟨w.heap.size, 3, none⟩ = some (.slice none 0 0) := HBr.out.cell 3
  have kW2fHBr3 : World.frozen? _ ⟨w.heap.size, 3, none⟩ = false := HBr.out.frozen 3
  have kW2HBi0 : World.cell? _ ⟨gi, 0, none⟩ = some (.bool i.neg) := HBi.out.cell 0
  have kW2HBi1 : World.cell? _ ⟨gi, 1, none⟩ = some (.slice i.A i.k i.c) := HBi.out.cell 1
  refine (H2.out _).mono ?_
  rintro e w3 ⟨j, rfl, hj, hb3⟩
  replace HBr := Lib.hid (Blk.below (by exact HBr.out) hb3 (by exact HBr.out.lt))
  obtain ⟨sw3HBr0, sw3HBr1, sw3HBr2, sw3HBr3⟩ := Blk.c4 HBr.out
  obtain ⟨fw3HBr0, fw3HBr1, fw3HBr2, fw3HBr3⟩ := Blk.f4 HBr.out
  replace HBi := Lib.hid (Blk.below (by exact HBi.out) hb3 (by exact HBi.out.lt))
  obtain ⟨sw3HBi0, sw3HBi1⟩ := Blk.c2 HBi.out
  replace HT := Lib.hid (Rests.below (φ := Tz) (by first | exact HT.out | exact HT.out.drew) hb3)
  replace Hi := Lib.hid (Rests.below (φ := IntD i x 100) (by first | exact Hi.out | exact Hi.out.drew) hb3)
  replace Hbel := Lib.hid (Below.after (by first | exact Hbel.out | exact Below.drew Hbel.out) hb3)
  have Hj := Lib.hid hj.old
  clear hj
  clear hb3
  replace HBr := Lib.hid (HBr.out.alloc (.cells #[.bool j.neg, .slice j.A j.k j.c] 34))
  replace HBi := Lib.hid (HBi.out.alloc (.cells #[.bool j.neg, .slice j.A j.k j.c] 34))
  replace HT := Lib.hid (HT.out.alloc (.cells #[.bool j.neg, .slice j.A j.k j.c] 34))
  replace Hi := Lib.hid (Hi.out.alloc (.cells #[.bool j.neg, .slice j.A j.k j.c] 34))
  replace Hj := Lib.hid (Hj.out.alloc (.cells #[.bool j.neg, .slice j.A j.k j.c] 34))
  replace Hbel := Lib.hid (Hbel.out.alloc Hbel.out.size (.cells #[.bool j.neg, .slice j.A j.k j.c] 34))
  have HBj := Lib.hid (Blk.new w3 34 #[.bool j.neg, .slice j.A j.k j.c])
  clear sw3HBr0 sw3HBr1 sw3HBr2 sw3HBr3 sw3HBi0 sw3HBi1
  go_wp2_with fail
  generalize hW3 : w3.alloc (.cells #[.bool j.neg, .slice j.A j.k j.c] 34) = W3 at *
  generalize hgj : w3.heap.size = gj at *
  clear hW3 hgj
  have kW3HBr0 : World.cell? _ ⟨w.heap.size, 0, none⟩ = some (.bool false) := HBr.out.cell 0
  have kW3fHBr0 : World.frozen? _ ⟨w.heap.size, 0, none⟩ = false := HBr.out.frozen 0
  have kW3HBr1 : World.cell? _ ⟨w.heap.size, 1, none⟩ = some (.slice none 0 0) := HBr.out.cell 1
  have kW3fHBr1 : World.frozen? _ ⟨w.heap.size, 1, none⟩ = false := HBr.out.frozen 1
  have kW3HBr2 : World.cell? _ ⟨w.heap.size, 2, none⟩ = some (.bool false) := HBr.out.cell 2
  have kW3fHBr2 : World.frozen? _ ⟨w.heap.size, 2, none⟩ = false := HBr.out.frozen 2
  have kW3HBr3 : World.cell? _ ⟨w.heap.size, 3, none⟩ = some (.slice none 0 0) := HBr.out.cell 3
  have kW3fHBr3 : World.frozen? _ ⟨w.heap.size, 3, none⟩ = false := HBr.out.frozen 3
  have kW3HBi0 : World.cell? _ ⟨gi, 0, none⟩ = some (.bool i.neg) := HBi.out.cell 0
  have kW3HBi1 : World.cell? _ ⟨gi, 1, none⟩ = some (.slice i.A i.k i.c) := HBi.out.cell 1
  have kW3HBj0 : World.cell? _ ⟨gj, 0, none⟩ = some (.bool j.neg) := HBj.out.cell 0
  have kW3HBj1 : World.cell? _ ⟨gj, 1, none⟩ = some (.slice j.A j.k j.c) := HBj.out.cell 1
  refine (H3.out _).mono ?_
  rintro e w4 ⟨rfl, hw⟩
  have hw2 := hw.symm
  subst hw2
  go_wp2_with fail
  refine (wsign_any _ j y 100 (by omega) (by first | exact Hj.out.now | exact Hj.out.drew.now)).mono ?_
  rintro e w5 ⟨rfl, hb5⟩
  replace HBr := Lib.hid (Blk.below (by exact HBr.out) hb5 (by exact HBr.out.lt))
  obtain ⟨sw5HBr0, sw5HBr1, sw5HBr2, sw5HBr3⟩ := Blk.c4 HBr.out
  obtain ⟨fw5HBr0, fw5HBr1, fw5HBr2, fw5HBr3⟩ := Blk.f4 HBr.out
  replace HBi := Lib.hid (Blk.below (by exact HBi.out) hb5 (by exact HBi.out.lt))
  obtain ⟨sw5HBi0, sw5HBi1⟩ := Blk.c2 HBi.out
  replace HBj := Lib.hid (Blk.below (by exact HBj.out) hb5 (by exact HBj.out.lt))
  obtain ⟨sw5HBj0, sw5HBj1⟩ := Blk.c2 HBj.out
  replace HT := Lib.hid (Rests.below (φ := Tz) (by first | exact HT.out | exact HT.out.drew) hb5)
  replace Hi := Lib.hid (Rests.below (φ := IntD i x 100) (by first | exact Hi.out | exact Hi.out.drew) hb5)
  replace Hj := Lib.hid (Rests.below (φ := IntD j y 100) (by first | exact Hj.out | exact Hj.out.drew) hb5)
  replace Hbel := Lib.hid (Below.after (by first | exact Hbel.out | exact Below.drew Hbel.out) hb5)
  rw [Hy.out]
  clear hb5
  go_wp2_with fail
  have hfin : RetRE (0) 10 w (.returned (.tuple #[.agg #[.bool false, .slice none 0 0, .bool false, .slice none 0 0], .int .i64 10])) ((((w5.setCell ⟨w.heap.size, 0, none⟩ (.bool false)).setCell ⟨w.heap.size, 1, none⟩ (.slice none 0 0)).setCell ⟨w.heap.size, 2, none⟩ (.bool false)).setCell ⟨w.heap.size, 3, none⟩ (.slice none 0 0)) := RetRE.of (r := zeroR) (ret_boxR (r := zeroR) (g := w.heap.size) (w2 := w5) Hbel.out (by omega) (RatN.zero_den (F := (w.heap.size + 1 ≤ ·)) (zeroN _ _) rfl rfl) (fun _ h => h))
  have b4 := box4 HBr.out (.bool false) (.slice none 0 0) (.bool false) (.slice none 0 0)
  have q0 : World.cell? ((((w5.setCell ⟨w.heap.size, 0, none⟩ (.bool false)).setCell ⟨w.heap.size, 1, none⟩ (.slice none 0 0)).setCell ⟨w.heap.size, 2, none⟩ (.bool false)).setCell ⟨w.heap.size, 3, none⟩ (.slice none 0 0)) ⟨w.heap.size, 0, none⟩ = some (.bool false) := b4.cell 0
  have q1 : World.cell? ((((w5.setCell ⟨w.heap.size, 0, none⟩ (.bool false)).setCell ⟨w.heap.size, 1, none⟩ (.slice none 0 0)).setCell ⟨w.heap.size, 2, none⟩ (.bool false)).setCell ⟨w.heap.size, 3, none⟩ (.slice none 0 0)) ⟨w.heap.size, 1, none⟩ = some (.slice none 0 0) := b4.cell 1
  have q2 : World.cell? ((((w5.setCell ⟨w.heap.size, 0, none⟩ (.bool false)).setCell ⟨w.heap.size, 1, none⟩ (.slice none 0 0)).setCell ⟨w.heap.size, 2, none⟩ (.bool false)).setCell ⟨w.heap.size, 3, none⟩ (.slice none 0 0)) ⟨w.heap.size, 2, none⟩ = some (.bool false) := b4.cell 2
  have q3 : World.cell? ((((w5.setCell ⟨w.heap.size, 0, none⟩ (.bool false)).setCell ⟨w.heap.size, 1, none⟩ (.slice none 0 0)).setCell ⟨w.heap.size, 2, none⟩ (.bool false)).setCell ⟨w.heap.size, 3, none⟩ (.slice none 0 0)) ⟨w.heap.size, 3, none⟩ = some (.slice none 0 0) := b4.cell 3
  clear b4 HBr Hbel
  generalize ((((w5.setCell ⟨w.heap.size, 0, none⟩ (.bool false)).setCell ⟨w.heap.size, 1, none⟩ (.slice none 0 0)).setCell ⟨w.heap.size, 2, none⟩ (.bool false)).setCell ⟨w.heap.size, 3, none⟩ (.slice none 0 0)) = W at *
  exact bodyPost_ret (v := .tuple #[.agg #[.bool false, .slice none 0 0, .bool false, .slice none 0 0], .int .i64 10]) (by simp [results, Tryz.results55, go_sem, q0, q1, q2, q3]) rfl hfin

set_option maxRecDepth 100000 in
set_option maxHeartbeats 2000000 in
theorem rparse_F_false (w : World) (s top bot bt : ByteArray) (p d : Nat) (x y : Int) (px : Bool) (hT : Tz w) (hbb : bot = ⟨#[49]⟩)
    (hc : ∀ W, Calls Tryz.prog 101 #[.string s, .string ⟨#[47]⟩] W fun e w' => e = .returned (.tuple #[.string top, .string bt, .bool false]) ∧ Below W.heap.size W w')
    (h1 : ∀ W, Calls Tryz.prog 102 #[.string top] W (RetPI p x W)) (h2 : ∀ W, Calls Tryz.prog 102 #[.string bot] W (RetPI d y W))
    (h3 : ∀ W, Calls Tryz.prog 103 #[.string bot, .string ⟨#[45]⟩] W fun e w' => e = .returned (.bool px) ∧ w' = W) (hp : p = 0) (hd : d = 0) (hx : px = false) (hy : y.sign = 0) :
    Calls Tryz.prog 55 #[.string s] w (RetRE (0) 10 w) := by
  have Hc := Lib.hid hc; have H1 := Lib.hid h1; have H2 := Lib.hid h2; have H3 := Lib.hid h3
  obtain ⟨W0, hW0⟩ : ∃ W0, W0 = (w.alloc (.cells #[.bool false, .slice none 0 0, .bool false, .slice none 0 0] 36)) := ⟨_, rfl⟩
  obtain ⟨p0, pb⟩ := lay1 hW0
  have HBr := Lib.hid p0
  have Hbel := Lib.hid pb
  have HT := Lib.hid (Rests.al1 (hT.old) hW0)
  clear p0 pb
  subst hW0
  clear hc h1 h2 h3 hT
  subst hbb
  subst hp hd hx
  have Hy := Lib.hid hy
  clear hy
  go_enter Tryz.func55, Tryz.ntmps55
  go_wp2_with fail
  refine (Hc.out _).mono ?_
  rintro e w1 ⟨rfl, hb1⟩
  replace HBr := Lib.hid (Blk.below (by exact HBr.out) hb1 (by exact HBr.out.lt))
  obtain ⟨sw1HBr0, sw1HBr1, sw1HBr2, sw1HBr3⟩ := Blk.c4 HBr.out
  obtain ⟨fw1HBr0, fw1HBr1, fw1HBr2, fw1HBr3⟩ := Blk.f4 HBr.out
  replace HT := Lib.hid (Rests.below (φ := Tz) (by first | exact HT.out | exact HT.out.drew) hb1)
  replace Hbel := Lib.hid (Below.after (by first | exact Hbel.out | exact Below.drew Hbel.out) hb1)
  clear hb1
  go_wp2_with fail
  refine (H1.out _).mono ?_
  rintro e w2 ⟨i, rfl, hi, hb2⟩
  replace HBr := Lib.hid (Blk.below (by exact HBr.out) hb2 (by exact HBr.out.lt))
  obtain ⟨sw2HBr0, sw2HBr1, sw2HBr2, sw2HBr3⟩ := Blk.c4 HBr.out
  obtain ⟨fw2HBr0, fw2HBr1, fw2HBr2, fw2HBr3⟩ := Blk.f4 HBr.out
  replace HT := Lib.hid (Rests.below (φ := Tz) (by first | exact HT.out | exact HT.out.drew) hb2)
  replace Hbel := Lib.hid (Below.after (by first | exact Hbel.out | exact Below.drew Hbel.out) hb2)
  have Hi := Lib.hid hi.old
  clear hi
  clear hb2
  replace HBr := Lib.hid (HBr.out.alloc (.cells #[.bool i.neg, .slice i.A i.k i.c] 34))
  replace HT := Lib.hid (HT.out.alloc (.cells #[.bool i.neg, .slice i.A i.k i.c] 34))
  replace Hi := Lib.hid (Hi.out.alloc (.cells #[.bool i.neg, .slice i.A i.k i.c] 34))
  replace Hbel := Lib.hid (Hbel.out.alloc Hbel.out.size (.cells #[.bool i.neg, .slice i.A i.k i.c] 34))
  have HBi := Lib.hid (Blk.new w2 34 #[.bool i.neg, .slice i.A i.k i.c])
  clear sw2HBr0 sw2HBr1 sw2HBr2 sw2HBr3
  go_wp2_with fail
  generalize hW2 : w2.alloc (.cells #[.bool i.neg, .slice i.A i.k i.c] 34) = W2 at *
  generalize hgi : w2.heap.size = gi at *
  clear hW2 hgi
  have kW2HBr0 : World.cell? _ ⟨w.heap.size, 0, none⟩ = some (.bool false) := HBr.out.cell 0
  have kW2fHBr0 : World.frozen? _ ⟨w.heap.size, 0, none⟩ = false := HBr.out.frozen 0
  have kW2HBr1 : World.cell? _ ⟨w.heap.size, 1, none⟩ = some (.slice none 0 0) := HBr.out.cell 1
  have kW2fHBr1 : World.frozen? _ ⟨w.heap.size, 1, none⟩ = false := HBr.out.frozen 1
  have kW2HBr2 : World.cell? _ ⟨w.heap.size, 2, none⟩ = some (.bool false) := HBr.out.cell 2
  have kW2fHBr2 : World.frozen? _ ⟨w.heap.size, 2, none⟩ = false := HBr.out.frozen 2
  have kW2HBr3 : World.cell? _ ⟨w.heap.size, 3, none⟩ = some (.slice none 0 0) := HBr.out.cell 3
  have kW2fHBr3 : World.frozen? _ ⟨w.heap.size, 3, none⟩ = false := HBr.out.frozen 3
  have kW2HBi0 : World.cell? _ ⟨gi, 0, none⟩ = some (.bool i.neg) := HBi.out.cell 0
  have kW2HBi1 : World.cell? _ ⟨gi, 1, none⟩ = some (.slice i.A i.k i.c) := HBi.out.cell 1
  refine (H2.out _).mono ?_
  rintro e w3 ⟨j, rfl, hj, hb3⟩
  replace HBr := Lib.hid (Blk.below (by exact HBr.out) hb3 (by exact HBr.out.lt))
  obtain ⟨sw3HBr0, sw3HBr1, sw3HBr2, sw3HBr3⟩ := Blk.c4 HBr.out
  obtain ⟨fw3HBr0, fw3HBr1, fw3HBr2, fw3HBr3⟩ := Blk.f4 HBr.out
  replace HBi := Lib.hid (Blk.below (by exact HBi.out) hb3 (by exact HBi.out.lt))
  obtain ⟨sw3HBi0, sw3HBi1⟩ := Blk.c2 HBi.out
  replace HT := Lib.hid (Rests.below (φ := Tz) (by first | exact HT.out | exact HT.out.drew) hb3)
  replace Hi := Lib.hid (Rests.below (φ := IntD i x 100) (by first | exact Hi.out | exact Hi.out.drew) hb3)
  replace Hbel := Lib.hid (Below.after (by first | exact Hbel.out | exact Below.drew Hbel.out) hb3)
  have Hj := Lib.hid hj.old
  clear hj
  clear hb3
  replace HBr := Lib.hid (HBr.out.alloc (.cells #[.bool j.neg, .slice j.A j.k j.c] 34))
  replace HBi := Lib.hid (HBi.out.alloc (.cells #[.bool j.neg, .slice j.A j.k j.c] 34))
  replace HT := Lib.hid (HT.out.alloc (.cells #[.bool j.neg, .slice j.A j.k j.c] 34))
  replace Hi := Lib.hid (Hi.out.alloc (.cells #[.bool j.neg, .slice j.A j.k j.c] 34))
  replace Hj := Lib.hid (Hj.out.alloc (.cells #[.bool j.neg, .slice j.A j.k j.c] 34))
  replace Hbel := Lib.hid (Hbel.out.alloc Hbel.out.size (.cells #[.bool j.neg, .slice j.A j.k j.c] 34))
  have HBj := Lib.hid (Blk.new w3 34 #[.bool j.neg, .slice j.A j.k j.c])
  clear sw3HBr0 sw3HBr1 sw3HBr2 sw3HBr3 sw3HBi0 sw3HBi1
  go_wp2_with fail
  generalize hW3 : w3.alloc (.cells #[.bool j.neg, .slice j.A j.k j.c] 34) = W3 at *
  generalize hgj : w3.heap.size = gj at *
  clear hW3 hgj
  have kW3HBr0 : World.cell? _ ⟨w.heap.size, 0, none⟩ = some (.bool false) := HBr.out.cell 0
  have kW3fHBr0 : World.frozen? _ ⟨w.heap.size, 0, none⟩ = false := HBr.out.frozen 0
  have kW3HBr1 : World.cell? _ ⟨w.heap.size, 1, none⟩ = some (.slice none 0 0) := HBr.out.cell 1
  have kW3fHBr1 : World.frozen? _ ⟨w.heap.size, 1, none⟩ = false := HBr.out.frozen 1
  have kW3HBr2 : World.cell? _ ⟨w.heap.size, 2, none⟩ = some (.bool false) := HBr.out.cell 2
  have kW3fHBr2 : World.frozen? _ ⟨w.heap.size, 2, none⟩ = false := HBr.out.frozen 2
  have kW3HBr3 : World.cell? _ ⟨w.heap.size, 3, none⟩ = some (.slice none 0 0) := HBr.out.cell 3
  have kW3fHBr3 : World.frozen? _ ⟨w.heap.size, 3, none⟩ = false := HBr.out.frozen 3
  have kW3HBi0 : World.cell? _ ⟨gi, 0, none⟩ = some (.bool i.neg) := HBi.out.cell 0
  have kW3HBi1 : World.cell? _ ⟨gi, 1, none⟩ = some (.slice i.A i.k i.c) := HBi.out.cell 1
  have kW3HBj0 : World.cell? _ ⟨gj, 0, none⟩ = some (.bool j.neg) := HBj.out.cell 0
  have kW3HBj1 : World.cell? _ ⟨gj, 1, none⟩ = some (.slice j.A j.k j.c) := HBj.out.cell 1
  refine (H3.out _).mono ?_
  rintro e w4 ⟨rfl, hw⟩
  have hw2 := hw.symm
  subst hw2
  go_wp2_with fail
  refine (wsign_any _ j y 100 (by omega) (by first | exact Hj.out.now | exact Hj.out.drew.now)).mono ?_
  rintro e w5 ⟨rfl, hb5⟩
  replace HBr := Lib.hid (Blk.below (by exact HBr.out) hb5 (by exact HBr.out.lt))
  obtain ⟨sw5HBr0, sw5HBr1, sw5HBr2, sw5HBr3⟩ := Blk.c4 HBr.out
  obtain ⟨fw5HBr0, fw5HBr1, fw5HBr2, fw5HBr3⟩ := Blk.f4 HBr.out
  replace HBi := Lib.hid (Blk.below (by exact HBi.out) hb5 (by exact HBi.out.lt))
  obtain ⟨sw5HBi0, sw5HBi1⟩ := Blk.c2 HBi.out
  replace HBj := Lib.hid (Blk.below (by exact HBj.out) hb5 (by exact HBj.out.lt))
  obtain ⟨sw5HBj0, sw5HBj1⟩ := Blk.c2 HBj.out
  replace HT := Lib.hid (Rests.below (φ := Tz) (by first | exact HT.out | exact HT.out.drew) hb5)
  replace Hi := Lib.hid (Rests.below (φ := IntD i x 100) (by first | exact Hi.out | exact Hi.out.drew) hb5)
  replace Hj := Lib.hid (Rests.below (φ := IntD j y 100) (by first | exact Hj.out | exact Hj.out.drew) hb5)
  replace Hbel := Lib.hid (Below.after (by first | exact Hbel.out | exact Below.drew Hbel.out) hb5)
  rw [Hy.out]
  clear hb5
  go_wp2_with fail
  have hfin : RetRE (0) 10 w (.returned (.tuple #[.agg #[.bool false, .slice none 0 0, .bool false, .slice none 0 0], .int .i64 10])) ((((w5.setCell ⟨w.heap.size, 0, none⟩ (.bool false)).setCell ⟨w.heap.size, 1, none⟩ (.slice none 0 0)).setCell ⟨w.heap.size, 2, none⟩ (.bool false)).setCell ⟨w.heap.size, 3, none⟩ (.slice none 0 0)) := RetRE.of (r := zeroR) (ret_boxR (r := zeroR) (g := w.heap.size) (w2 := w5) Hbel.out (by omega) (RatN.zero_den (F := (w.heap.size + 1 ≤ ·)) (zeroN _ _) rfl rfl) (fun _ h => h))
  have b4 := box4 HBr.out (.bool false) (.slice none 0 0) (.bool false) (.slice none 0 0)
  have q0 : World.cell? ((((w5.setCell ⟨w.heap.size, 0, none⟩ (.bool false)).setCell ⟨w.heap.size, 1, none⟩ (.slice none 0 0)).setCell ⟨w.heap.size, 2, none⟩ (.bool false)).setCell ⟨w.heap.size, 3, none⟩ (.slice none 0 0)) ⟨w.heap.size, 0, none⟩ = some (.bool false) := b4.cell 0
  have q1 : World.cell? ((((w5.setCell ⟨w.heap.size, 0, none⟩ (.bool false)).setCell ⟨w.heap.size, 1, none⟩ (.slice none 0 0)).setCell ⟨w.heap.size, 2, none⟩ (.bool false)).setCell ⟨w.heap.size, 3, none⟩ (.slice none 0 0)) ⟨w.heap.size, 1, none⟩ = some (.slice none 0 0) := b4.cell 1
  have q2 : World.cell? ((((w5.setCell ⟨w.heap.size, 0, none⟩ (.bool false)).setCell ⟨w.heap.size, 1, none⟩ (.slice none 0 0)).setCell ⟨w.heap.size, 2, none⟩ (.bool false)).setCell ⟨w.heap.size, 3, none⟩ (.slice none 0 0)) ⟨w.heap.size, 2, none⟩ = some (.bool false) := b4.cell 2
  have q3 : World.cell? ((((w5.setCell ⟨w.heap.size, 0, none⟩ (.bool false)).setCell ⟨w.heap.size, 1, none⟩ (.slice none 0 0)).setCell ⟨w.heap.size, 2, none⟩ (.bool false)).setCell ⟨w.heap.size, 3, none⟩ (.slice none 0 0)) ⟨w.heap.size, 3, none⟩ = some (.slice none 0 0) := b4.cell 3
  clear b4 HBr Hbel
  generalize ((((w5.setCell ⟨w.heap.size, 0, none⟩ (.bool false)).setCell ⟨w.heap.size, 1, none⟩ (.slice none 0 0)).setCell ⟨w.heap.size, 2, none⟩ (.bool false)).setCell ⟨w.heap.size, 3, none⟩ (.slice none 0 0)) = W at *
  exact bodyPost_ret (v := .tuple #[.agg #[.bool false, .slice none 0 0, .bool false, .slice none 0 0], .int .i64 10]) (by simp [results, Tryz.results55, go_sem, q0, q1, q2, q3]) rfl hfin

theorem rparse_ok (w : World) (s : ByteArray) (hs : s.size ≤ 1048576) (hT : Tz w) : Calls Tryz.prog 55 #[.string s] w (RetRE (parseR s.data.toList).2 (parseR s.data.toList).1 w) := by
  obtain ⟨C, hC⟩ : ∃ C, C = Lib.cut s.data.toList [47] := ⟨_, rfl⟩
  obtain ⟨tp, bt, dv⟩ := C
  have hl : tp.length ≤ s.size ∧ bt.length ≤ s.size := by
    have e : s.size = s.data.toList.length := Lib.size_eq s
    unfold Lib.cut at hC
    split at hC <;> simp only [Prod.mk.injEq] at hC <;> obtain ⟨rfl, rfl, -⟩ := hC <;> simp <;> omega
  have hc := fun W => cut_any s W hs
  rw [← hC] at hc
  have h1 := fun W => parse_pi ⟨tp.toArray⟩ W (by rw [size_str]; omega)
  obtain ⟨bot, hbot⟩ : ∃ bot : List UInt8, bot = if dv = true then bt else [49] := ⟨_, rfl⟩
  have hbl : bot.length ≤ 1048576 := by rw [hbot]; split <;> first | omega | simp
  have h2 := fun W => parse_pi ⟨bot.toArray⟩ W (by rw [size_str]; omega)
  have h3 := fun W => Tryz.strings_HasPrefix ⟨bot.toArray⟩ ⟨#[45]⟩ W
  have e0 : ∀ l : List UInt8, (⟨l.toArray⟩ : ByteArray).data.toList = l := fun l => by simp
  rw [e0] at h1 h2
  simp only at h3
  have hR : parseR s.data.toList = if (parseN tp).1 = 11 ∨ (parseN bot).1 = 11 ∨ Lib.hasPrefix bot [45] = true then (11, 0) else if (parseN tp).1 ≠ 0 then ((parseN tp).1, 0) else if (parseN bot).1 ≠ 0 then ((parseN bot).1, 0) else if pz (parseN bot) = 0 then (10, 0) else (0, Rat.divInt (pz (parseN tp)) (pz (parseN bot))) := by
    unfold parseR
    simp only [← hC, ← hbot]
  have hneg : Lib.hasPrefix bot [45] = false → 0 ≤ pz (parseN bot) := by
    intro h
    unfold pz parseN iv
    simp only [h]
    split
    · simp
    · split <;> simp
  have k1 := parse_code tp
  have k2 := parse_code bot
  generalize parseN tp = P at *
  generalize parseN bot = D at *
  obtain ⟨p, pr⟩ := P
  obtain ⟨d, dr⟩ := D
  simp only at k1 k2 hR h1 h2 hneg
  generalize pz (p, pr) = x at *
  generalize pz (d, dr) = y at *
  generalize Lib.hasPrefix bot [45] = px at *
  rw [hR]
  have key : ∀ (X : Rat) (k : Nat), (if p = 11 ∨ d = 11 ∨ px = true then ((11 : Nat), (0 : Rat)) else if p ≠ 0 then (p, 0) else if d ≠ 0 then (d, 0) else if y = 0 then (10, 0) else (0, Rat.divInt x y)) = (k, X) → Calls Tryz.prog 55 #[.string s] w (RetRE X k w) := by
    intro X k hk
    cases dv with
    | true =>
      obtain rfl : bot = bt := by simpa using hbot
      by_cases a1 : p = 11
      · simp [a1] at hk; obtain ⟨rfl, rfl⟩ := hk; exact rparse_A_true w s _ _ p d x y px hT hc h1 h2 h3 a1
      by_cases a2 : d = 11
      · simp [a2] at hk; obtain ⟨rfl, rfl⟩ := hk; exact rparse_B_true w s _ _ p d x y px hT hc h1 h2 h3 a1 a2
      cases px with
      | true => simp at hk; obtain ⟨rfl, rfl⟩ := hk; exact rparse_C_true w s _ _ p d x y true hT hc h1 h2 h3 a1 a2 rfl
      | false =>
        by_cases a3 : p = 0
        · by_cases a4 : d = 0
          · have hn := hneg rfl
            by_cases a5 : y = 0
            · simp [a3, a4, a5] at hk; obtain ⟨rfl, rfl⟩ := hk; exact rparse_F_true w s _ _ p d x y false hT hc h1 h2 h3 a3 a4 rfl (by rw [a5]; rfl)
            · simp [a3, a4, a5] at hk; obtain ⟨rfl, rfl⟩ := hk; exact rparse_G_true w s _ _ p d x y false hT hc h1 h2 h3 a3 a4 rfl (Int.sign_eq_one_of_pos (by omega))
          · have a6 : d = 3 := by omega
            simp [a3, a6] at hk; obtain ⟨rfl, rfl⟩ := hk; exact rparse_E_true w s _ _ p d x y false hT hc h1 h2 h3 a3 a6 rfl
        · have a6 : p = 3 := by omega
          simp [a6, a2] at hk; obtain ⟨rfl, rfl⟩ := hk; exact rparse_D_true w s _ _ p d x y false hT hc h1 h2 h3 a6 a2 rfl
    | false =>
      obtain rfl : bot = [49] := by simpa using hbot
      by_cases a1 : p = 11
      · simp [a1] at hk; obtain ⟨rfl, rfl⟩ := hk; exact rparse_A_false w s _ _ _ p d x y px hT rfl hc h1 h2 h3 a1
      by_cases a2 : d = 11
      · simp [a2] at hk; obtain ⟨rfl, rfl⟩ := hk; exact rparse_B_false w s _ _ _ p d x y px hT rfl hc h1 h2 h3 a1 a2
      cases px with
      | true => simp at hk; obtain ⟨rfl, rfl⟩ := hk; exact rparse_C_false w s _ _ _ p d x y true hT rfl hc h1 h2 h3 a1 a2 rfl
      | false =>
        by_cases a3 : p = 0
        · by_cases a4 : d = 0
          · have hn := hneg rfl
            by_cases a5 : y = 0
            · simp [a3, a4, a5] at hk; obtain ⟨rfl, rfl⟩ := hk; exact rparse_F_false w s _ _ _ p d x y false hT rfl hc h1 h2 h3 a3 a4 rfl (by rw [a5]; rfl)
            · simp [a3, a4, a5] at hk; obtain ⟨rfl, rfl⟩ := hk; exact rparse_G_false w s _ _ _ p d x y false hT rfl hc h1 h2 h3 a3 a4 rfl (Int.sign_eq_one_of_pos (by omega))
          · have a6 : d = 3 := by omega
            simp [a3, a6] at hk; obtain ⟨rfl, rfl⟩ := hk; exact rparse_E_false w s _ _ _ p d x y false hT rfl hc h1 h2 h3 a3 a6 rfl
        · have a6 : p = 3 := by omega
          simp [a6, a2] at hk; obtain ⟨rfl, rfl⟩ := hk; exact rparse_D_false w s _ _ _ p d x y false hT rfl hc h1 h2 h3 a6 a2 rfl
  exact key _ _ rfl
end Go.Proofs.YtbdgeinfijamcaaGreatDoor
