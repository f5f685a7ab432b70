/-
  ratio.Text; tripwirelaw04.is. strings.Cut at "/"; ratio.Parse.
-/
import Derived.Test.YtbdgeinfijamcaaGreatDoorSL
import Derived.Test.YtbdgeinfijamcaaGreatDoorBackM
import Derived.Test.YtbdgeinfijamcaaGreatDoorShelf
import Derived.Lib.CutLaws
import Derived.Deep.DeepMust
namespace Go.Proofs.YtbdgeinfijamcaaGreatDoor
open Go.RowKit

end Go.Proofs.YtbdgeinfijamcaaGreatDoor
namespace Go.Proofs.YtbdgeinfijamcaaGreatDoor
open Go.RowKit

theorem index_one (l : List UInt8) (c : UInt8) : Lib.index l [c] = Lib.indexByte l c := by
  induction l with
  | nil => rfl
  | cons b l ih =>
    simp only [Lib.index, Lib.indexByte, ih, List.isPrefixOf, Bool.and_true]
    by_cases h : b = c
    · simp [h]
    · rw [beq_false_of_ne h, beq_false_of_ne (fun e => h e.symm)]
set_option maxRecDepth 100000 in
set_option maxHeartbeats 1000000 in
theorem slcut_any (s : ByteArray) (w : World) (hs : s.size ≤ 1048576) :
    Calls Tryz.prog 142 #[.string s, .string ⟨#[47]⟩] w fun e w' => e = .returned (.tuple #[.string ⟨(Lib.cut s.data.toList [47]).1.toArray⟩, .string ⟨(Lib.cut s.data.toList [47]).2.1.toArray⟩, .bool (Lib.cut s.data.toList [47]).2.2]) ∧ Below w.heap.size w w' := by
  have h1 := Tryz.stringslite_Index_one s 47
  rw [← index_one] at h1
  rcases Lib.indexB_cases s ⟨#[47]⟩ with hix | ⟨i, hix, hroom⟩
  · obtain ⟨e1, e2, e3⟩ := Lib.cutB_miss s ⟨#[47]⟩ hix
    have hix' : Lib.index s.data.toList [47] = -1 := hix
    rw [show (⟨#[47]⟩ : ByteArray).data.toList = [47] from rfl] at e1 e2 e3
    rw [e1, e2, e3]
    rw [hix'] at h1
    have H1 := Lib.hid h1
    clear h1 e1 e2 e3 hix hix'
    go_enter Tryz.func142, Tryz.ntmps142
    go_wp2_with fail
    refine (H1.out _).mono ?_
    rintro e w' ⟨rfl, hw⟩
    have hw2 := hw.symm; subst hw2
    go_wp2_with fail
    go_ret3
    exact ⟨rfl, Below.refl _ _⟩
  · obtain ⟨e1, e2, e3⟩ := Lib.cutB_hit s ⟨#[47]⟩ i hix
    have hix' : Lib.index s.data.toList [47] = (i : Int) := hix
    rw [show (⟨#[47]⟩ : ByteArray).data.toList = [47] from rfl] at e1 e2 e3
    rw [show (⟨#[47]⟩ : ByteArray).size = 1 from rfl] at e2 hroom
    rw [e1, e2, e3]
    rw [hix'] at h1
    have H1 := Lib.hid h1
    have c1 : (0 : Int) ≤ (i : Int) := by omega
    have c2 : (i : Int) ≤ (s.size : Int) := by omega
    have c3 : (0 : Int) ≤ (i : Int) + 1 := by omega
    have c4 : (i : Int) + 1 ≤ (s.size : Int) := by omega
    have c5 : IntKind.i64.wrap ((i : Int) + 1) = (i : Int) + 1 := IntWalk.i64_in _ (by omega)
    clear h1 e1 e2 e3 hix hix'
    go_enter Tryz.func142, Tryz.ntmps142
    go_wp2_with fail
    refine (H1.out _).mono ?_
    rintro e w' ⟨rfl, hw⟩
    have hw2 := hw.symm; subst hw2
    go_wp2_with fail
    go_region
    all_goals
      go_wp2_with fail
      go_ret3
      exact ⟨rfl, Below.drew (Below.refl _ _)⟩
set_option maxRecDepth 100000 in
set_option maxHeartbeats 1000000 in
theorem cut_any (s : ByteArray) (w : World) (hs : s.size ≤ 1048576) :
    Calls Tryz.prog 101 #[.string s, .string ⟨#[47]⟩] w fun e w' => e = .returned (.tuple #[.string ⟨(Lib.cut s.data.toList [47]).1.toArray⟩, .string ⟨(Lib.cut s.data.toList [47]).2.1.toArray⟩, .bool (Lib.cut s.data.toList [47]).2.2]) ∧ Below w.heap.size w w' := by
  have H1 := Lib.hid (slcut_any s w hs)
  generalize (Lib.cut s.data.toList [47]).1.toArray = x at *
  generalize (Lib.cut s.data.toList [47]).2.1.toArray = y at *
  generalize (Lib.cut s.data.toList [47]).2.2 = z at *
  go_enter Tryz.func101, Tryz.ntmps101
  go_wp2_with fail
  refine H1.out.mono ?_
  rintro e w' ⟨rfl, hb⟩
  have Hb := Lib.hid hb; clear hb
  go_wp2_with fail
  go_ret3
  exact ⟨rfl, Hb.out⟩

theorem lenK {v k : Nat} (h : v < 10 ^ k) (hk : k ≤ 600) : v < B64 ^ 100 := Nat.lt_trans h (ten_pow 100 (by decide) (by omega))
theorem parse_small (s : List UInt8) : (parseN s).2.2 < B64 ^ 100 := by
  unfold parseN
  by_cases h1 : numB (Lib.trimPrefix s [45]) (Lib.hasPrefix s [45]) = false
  · simp only [if_pos h1]; exact Nat.pow_pos B64_pos
  · simp only [if_neg h1]
    by_cases h2 : 600 < (Lib.trimPrefix s [45]).length
    · simp only [if_pos h2]; exact Nat.pow_pos B64_pos
    · simp only [if_neg h2]
      have h3 : numB (Lib.trimPrefix s [45]) (Lib.hasPrefix s [45]) = true := by simpa using h1
      unfold numB at h3
      simp only [Bool.and_eq_true, List.all_eq_true] at h3
      exact lenK (decVal_lt _ h3.1.2) (Nat.not_lt.1 h2)
theorem parse_code (s : List UInt8) : (parseN s).1 = 0 ∨ (parseN s).1 = 3 ∨ (parseN s).1 = 11 := by
  unfold parseN
  simp only
  split
  · simp
  · split <;> simp
/-- what a numeral's reading says -/
def pz (p : Nat × Bool × Nat) : Int := iv p.2.1 p.2.2
/-- a whole number told, with an error's number -/
def RetPI (k : Nat) (z : Int) (w : World) (e : Ending) (w' : World) : Prop :=
  ∃ i : IV, e = .returned (.tuple #[.agg #[.bool i.neg, .slice i.A i.k i.c], .int .i64 (k : Nat)]) ∧ IntD i z 100 w' ∧ Below w.heap.size w w'
theorem parse_pi (s : ByteArray) (W : World) (hs : s.size ≤ 1048576) : Calls Tryz.prog 102 #[.string s] W (RetPI (parseN s.data.toList).1 (pz (parseN s.data.toList)) W) := by
  refine (parse_any s W hs).mono ?_
  rintro e w' ⟨A, c, rfl, hc, hr, hb⟩
  exact ⟨⟨(parseN s.data.toList).2.1, A, (digs B64 (parseN s.data.toList).2.2).length, c⟩, rfl, ⟨⟨_, rfl, hr, digs_lt (by decide) _, by rw [val_digs (by decide)]; rfl⟩, hc, dlen_le (parse_small _)⟩, hb⟩
/-- what ratio.Parse tells: an error's number, a fraction -/
def parseR (s : List UInt8) : Nat × Rat :=
  let c := Lib.cut s [47]
  let bot := if c.2.2 then c.2.1 else [49]
  let p := parseN c.1
  let d := parseN bot
  if p.1 = 11 ∨ d.1 = 11 ∨ Lib.hasPrefix bot [45] = true then (11, 0) else if p.1 ≠ 0 then (p.1, 0) else if d.1 ≠ 0 then (d.1, 0) else if pz d = 0 then (10, 0) else (0, Rat.divInt (pz p) (pz d))

set_option maxRecDepth 100000 in
set_option maxHeartbeats 2000000 in
theorem rparse_G_true (w : World) (s top bot : ByteArray) (p d : Nat) (x y : Int) (px : Bool) (hT : Tz w)
    (hc : ∀ W, Calls Tryz.prog 101 #[.string s, .string ⟨#[47]⟩] W fun e w' => e = .returned (.tuple #[.string top, .string bot, .bool true]) ∧ Below W.heap.size W w')
    (h1 : ∀ W, Calls Tryz.prog 102 #[.string top] W (RetPI p x W)) (h2 : ∀ W, Calls Tryz.prog 102 #[.string bot] W (RetPI d y W))
    (h3 : ∀ W, Calls Tryz.prog 103 #[.string bot, .string ⟨#[45]⟩] W fun e w' => e = .returned (.bool px) ∧ w' = W) (hp : p = 0) (hd : d = 0) (hx : px = false) (hy : y.sign = 1) :
    Calls Tryz.prog 55 #[.string s] w (RetRE (Rat.divInt x y) 0 w) := by
  have Hc := Lib.hid hc; have H1 := Lib.hid h1; have H2 := Lib.hid h2; have H3 := Lib.hid h3
  obtain ⟨W0, hW0⟩ : ∃ W0, W0 = (w.alloc (.cells #[.bool false, .slice none 0 0, .bool false, .slice none 0 0] 36)) := ⟨_, rfl⟩
  obtain ⟨p0, pb⟩ := lay1 hW0
  have HBr := Lib.hid p0
  have Hbel := Lib.hid pb
  have HT := Lib.hid (Rests.al1 (hT.old) hW0)
  clear p0 pb
  subst hW0
  clear hc h1 h2 h3 hT
  subst hp hd hx
  have Hy := Lib.hid hy
  clear hy
  go_enter Tryz.func55, Tryz.ntmps55
  go_wp2_with fail
  refine (Hc.out _).mono ?_
  rintro e w1 ⟨rfl, hb1⟩
  replace HBr := Lib.hid (Blk.below (by exact HBr.out) hb1 (by exact HBr.out.lt))
  obtain ⟨sw1HBr0, sw1HBr1, sw1HBr2, sw1HBr3⟩ := Blk.c4 HBr.out
  obtain ⟨fw1HBr0, fw1HBr1, fw1HBr2, fw1HBr3⟩ := Blk.f4 HBr.out
  replace HT := Lib.hid (Rests.below (φ := Tz) (by first | exact HT.out | exact HT.out.drew) hb1)
  replace Hbel := Lib.hid (Below.after (by first | exact Hbel.out | exact Below.drew Hbel.out) hb1)
  clear hb1
  go_wp2_with fail
  refine (H1.out _).mono ?_
  rintro e w2 ⟨i, rfl, hi, hb2⟩
  replace HBr := Lib.hid (Blk.below (by exact HBr.out) hb2 (by exact HBr.out.lt))
  obtain ⟨sw2HBr0, sw2HBr1, sw2HBr2, sw2HBr3⟩ := Blk.c4 HBr.out
  obtain ⟨fw2HBr0, fw2HBr1, fw2HBr2, fw2HBr3⟩ := Blk.f4 HBr.out
  replace HT := Lib.hid (Rests.below (φ := Tz) (by first | exact HT.out | exact HT.out.drew) hb2)
  replace Hbel := Lib.hid (Below.after (by first | exact Hbel.out | exact Below.drew Hbel.out) hb2)
  have Hi := Lib.hid hi.old
  clear hi
  clear hb2
  replace HBr := Lib.hid (HBr.out.alloc (.cells #[.bool i.neg, .slice i.A i.k i.c] 34))
  replace HT := Lib.hid (HT.out.alloc (.cells #[.bool i.neg, .slice i.A i.k i.c] 34))
  replace Hi := Lib.hid (Hi.out.alloc (.cells #[.bool i.neg, .slice i.A i.k i.c] 34))
  replace Hbel := Lib.hid (Hbel.out.alloc Hbel.out.size (.cells #[.bool i.neg, .slice i.A i.k i.c] 34))
  have HBi := Lib.hid (Blk.new w2 34 #[.bool i.neg, .slice i.A i.k i.c])
  clear sw2HBr0 sw2HBr1 sw2HBr2 sw2HBr3
  go_wp2_with fail
  generalize hW2 : w2.alloc (.cells #[.bool i.neg, .slice i.A i.k i.c] 34) = W2 at *
  generalize hgi : w2.heap.size = gi at *
  clear hW2 hgi
  have kW2HBr0 : World.cell? _ ⟨w.heap.size, 0, none⟩ = some (.bool false) := HBr.out.cell 0
  have kW2fHBr0 : World.frozen? _ ⟨w.heap.size, 0, none⟩ = false := HBr.out.frozen 0
  have kW2HBr1 : World.cell? _ ⟨w.heap.size, 1, none⟩ = some (.slice none 0 0) := HBr.out.cell 1
  have kW2fHBr1 : World.frozen? _ ⟨w.heap.size, 1, none⟩ = false := HBr.out.frozen 1
  have kW2HBr2 : World.cell? _ ⟨w.heap.size, 2, none⟩ = some (.bool false) := HBr.out.cell 2
  have kW2fHBr2 : World.frozen? _ ⟨w.heap.size, 2, none⟩ = false := HBr.out.frozen 2
  have kW2HBr3 : World.cell? _ ⟨w.heap.size, 3, none⟩ = some (.slice none 0 0) := HBr.out.cell 3
  have kW2fHBr3 : World.frozen? _ ⟨w.heap.size, 3, none⟩ = false := HBr.out.frozen 3
  have kW2HBi0 : World.cell? _ ⟨gi, 0, none⟩ = some (.bool i.neg) := HBi.out.cell 0
  have kW2HBi1 : World.cell? _ ⟨gi, 1, none⟩ = some (.slice i.A i.k i.c) := HBi.out.cell 1
  refine (H2.out _).mono ?_
  rintro e w3 ⟨j, rfl, hj, hb3⟩
  replace HBr := Lib.hid (Blk.below (by exact HBr.out) hb3 (by exact HBr.out.lt))
  obtain ⟨sw3HBr0, sw3HBr1, sw3HBr2, sw3HBr3⟩ := Blk.c4 HBr.out
  obtain ⟨fw3HBr0, fw3HBr1, fw3HBr2, fw3HBr3⟩ := Blk.f4 HBr.out
  replace HBi := Lib.hid (Blk.below (by exact HBi.out) hb3 (by exact HBi.out.lt))
  obtain ⟨sw3HBi0, sw3HBi1⟩ := Blk.c2 HBi.out
  replace HT := Lib.hid (Rests.below (φ := Tz) (by first | exact HT.out | exact HT.out.drew) hb3)
  replace Hi := Lib.hid (Rests.below (φ := IntD i x 100) (by first | exact Hi.out | exact Hi.out.drew) hb3)
  replace Hbel := Lib.hid (Below.after (by first | exact Hbel.out | exact Below.drew Hbel.out) hb3)
  have Hj := Lib.hid hj.old
  clear hj
  clear hb3
  replace HBr := Lib.hid (HBr.out.alloc (.cells #[.bool j.neg, .slice j.A j.k j.c] 34))
  replace HBi := Lib.hid (HBi.out.alloc (.cells #[.bool j.neg, .slice j.A j.k j.c] 34))
  replace HT := Lib.hid (HT.out.alloc (.cells #[.bool j.neg, .slice j.A j.k j.c] 34))
  replace Hi := Lib.hid (Hi.out.alloc (.cells #[.bool j.neg, .slice j.A j.k j.c] 34))
  replace Hj := Lib.hid (Hj.out.alloc (.cells #[.bool j.neg, .slice j.A j.k j.c] 34))
  replace Hbel := Lib.hid (Hbel.out.alloc Hbel.out.size (.cells #[.bool j.neg, .slice j.A j.k j.c] 34))
  have HBj := Lib.hid (Blk.new w3 34 #[.bool j.neg, .slice j.A j.k j.c])
  clear sw3HBr0 sw3HBr1 sw3HBr2 sw3HBr3 sw3HBi0 sw3HBi1
  go_wp2_with fail
  generalize hW3 : w3.alloc (.cells #[.bool j.neg, .slice j.A j.k j.c] 34) = W3 at *
  generalize hgj : w3.heap.size = gj at *
  clear hW3 hgj
  have kW3HBr0 : World.cell? _ ⟨w.heap.size, 0, none⟩ = some (.bool false) := HBr.out.cell 0
  have kW3fHBr0 : World.frozen? _ ⟨w.heap.size, 0, none⟩ = false := HBr.out.frozen 0
  have kW3HBr1 : World.cell? _ ⟨w.heap.size, 1, none⟩ = some (.slice none 0 0) := HBr.out.cell 1
  have kW3fHBr1 : World.frozen? _ ⟨w.heap.size, 1, none⟩ = false := HBr.out.frozen 1
  have kW3HBr2 : World.cell? _ ⟨w.heap.size, 2, none⟩ = some (.bool false) := HBr.out.cell 2
  have kW3fHBr2 : World.frozen? _ ⟨w.heap.size, 2, none⟩ = false := HBr.out.frozen 2
  have kW3HBr3 : World.cell? _ ⟨w.heap.size, 3, none⟩ = some (.slice none 0 0) := HBr.out.cell 3
  have kW3fHBr3 : World.frozen? _ ⟨w.heap.size, 3, none⟩ = false := HBr.out.frozen 3
  have kW3HBi0 : World.cell? _ ⟨gi, 0, none⟩ = some (.bool i.neg) := HBi.out.cell 0
  have kW3HBi1 : World.cell? _ ⟨gi, 1, none⟩ = some (.slice i.A i.k i.c) := HBi.out.cell 1
  have kW3HBj0 : World.cell? _ ⟨gj, 0, none⟩ = some (.bool j.neg) := HBj.out.cell 0
  have kW3HBj1 : World.cell? _ ⟨gj, 1, none⟩ = some (.slice j.A j.k j.c) := HBj.out.cell 1
  refine (H3.out _).mono ?_
  rintro e w4 ⟨rfl, hw⟩
  have hw2 := hw.symm
  subst hw2
  go_wp2_with fail
  refine (wsign_any _ j y 100 (by omega) (by first | exact Hj.out.now | exact Hj.out.drew.now)).mono ?_
  rintro e w5 ⟨rfl, hb5⟩
  replace HBr := Lib.hid (Blk.below (by exact HBr.out) hb5 (by exact HBr.out.lt))
  obtain ⟨sw5HBr0, sw5HBr1, sw5HBr2, sw5HBr3⟩ := Blk.c4 HBr.out
  obtain ⟨fw5HBr0, fw5HBr1, fw5HBr2, fw5HBr3⟩ := Blk.f4 HBr.out
  replace HBi := Lib.hid (Blk.below (by exact HBi.out) hb5 (by exact HBi.out.lt))
  obtain ⟨sw5HBi0, sw5HBi1⟩ := Blk.c2 HBi.out
  replace HBj := Lib.hid (Blk.below (by exact HBj.out) hb5 (by exact HBj.out.lt))
  obtain ⟨sw5HBj0, sw5HBj1⟩ := Blk.c2 HBj.out
  replace HT := Lib.hid (Rests.below (φ := Tz) (by first | exact HT.out | exact HT.out.drew) hb5)
  replace Hi := Lib.hid (Rests.below (φ := IntD i x 100) (by first | exact Hi.out | exact Hi.out.drew) hb5)
  replace Hj := Lib.hid (Rests.below (φ := IntD j y 100) (by first | exact Hj.out | exact Hj.out.drew) hb5)
  replace Hbel := Lib.hid (Below.after (by first | exact Hbel.out | exact Below.drew Hbel.out) hb5)
  rw [Hy.out]
  clear hb5
  go_wp2_with fail
  refine (make_any _ i j x y 100 (by omega) (by omega) (by first | exact Hi.out.now | exact Hi.out.drew.now) (by first | exact Hj.out.now | exact Hj.out.drew.now) (by first | exact HT.out.now | exact HT.out.drew.now)).mono ?_
  rintro e w6 ⟨rr, rfl, hrr, hb6⟩
  have hgl := HBr.out.lt
  replace HBr := Lib.hid (Blk.below (by exact HBr.out) hb6 (by exact HBr.out.lt))
  obtain ⟨sw6HBr0, sw6HBr1, sw6HBr2, sw6HBr3⟩ := Blk.c4 HBr.out
  obtain ⟨fw6HBr0, fw6HBr1, fw6HBr2, fw6HBr3⟩ := Blk.f4 HBr.out
  replace Hbel := Lib.hid (Below.after (by first | exact Hbel.out | exact Below.drew Hbel.out) hb6)
  have Hrr := Lib.hid (hrr.mono (G := (w.heap.size + 1 ≤ ·)) (fun b hb => Nat.le_trans hgl hb))
  clear hrr hgl
  clear hb6
  go_wp2_with fail
  have hfin : RetRE (Rat.divInt x y) 0 w (.returned (.tuple #[.agg #[.bool rr.num.neg, .slice rr.num.A rr.num.k rr.num.c, .bool rr.den.neg, .slice rr.den.A rr.den.k rr.den.c], .int .i64 0])) ((((w6.setCell ⟨w.heap.size, 0, none⟩ (.bool rr.num.neg)).setCell ⟨w.heap.size, 1, none⟩ (.slice rr.num.A rr.num.k rr.num.c)).setCell ⟨w.heap.size, 2, none⟩ (.bool rr.den.neg)).setCell ⟨w.heap.size, 3, none⟩ (.slice rr.den.A rr.den.k rr.den.c)) := RetRE.of (r := rr) (ret_boxR (r := rr) (g := w.heap.size) (w2 := w6) Hbel.out (by omega) Hrr.out (fun _ h => h))
  have b4 := box4 HBr.out (.bool rr.num.neg) (.slice rr.num.A rr.num.k rr.num.c) (.bool rr.den.neg) (.slice rr.den.A rr.den.k rr.den.c)
  have q0 : World.cell? ((((w6.setCell ⟨w.heap.size, 0, none⟩ (.bool rr.num.neg)).setCell ⟨w.heap.size, 1, none⟩ (.slice rr.num.A rr.num.k rr.num.c)).setCell ⟨w.heap.size, 2, none⟩ (.bool rr.den.neg)).setCell ⟨w.heap.size, 3, none⟩ (.slice rr.den.A rr.den.k rr.den.c)) ⟨w.heap.size, 0, none⟩ = some (.bool rr.num.neg) := b4.cell 0
  have q1 : World.cell? ((((w6.setCell ⟨w.heap.size, 0, none⟩ (.bool rr.num.neg)).setCell ⟨w.heap.size, 1, none⟩ (.slice rr.num.A rr.num.k rr.num.c)).setCell ⟨w.heap.size, 2, none⟩ (.bool rr.den.neg)).setCell ⟨w.heap.size, 3, none⟩ (.slice rr.den.A rr.den.k rr.den.c)) ⟨w.heap.size, 1, none⟩ = some (.slice rr.num.A rr.num.k rr.num.c) := b4.cell 1
  have q2 : World.cell? ((((w6.setCell ⟨w.heap.size, 0, none⟩ (.bool rr.num.neg)).setCell ⟨w.heap.size, 1, none⟩ (.slice rr.num.A rr.num.k rr.num.c)).setCell ⟨w.heap.size, 2, none⟩ (.bool rr.den.neg)).setCell ⟨w.heap.size, 3, none⟩ (.slice rr.den.A rr.den.k rr.den.c)) ⟨w.heap.size, 2, none⟩ = some (.bool rr.den.neg) := b4.cell 2
  have q3 : World.cell? ((((w6.setCell ⟨w.heap.size, 0, none⟩ (.bool rr.num.neg)).setCell ⟨w.heap.size, 1, none⟩ (.slice rr.num.A rr.num.k rr.num.c)).setCell ⟨w.heap.size, 2, none⟩ (.bool rr.den.neg)).setCell ⟨w.heap.size, 3, none⟩ (.slice rr.den.A rr.den.k rr.den.c)) ⟨w.heap.size, 3, none⟩ = some (.slice rr.den.A rr.den.k rr.den.c) := b4.cell 3
  clear b4 HBr Hbel
  generalize ((((w6.setCell ⟨w.heap.size, 0, none⟩ (.bool rr.num.neg)).setCell ⟨w.heap.size, 1, none⟩ (.slice rr.num.A rr.num.k rr.num.c)).setCell ⟨w.heap.size, 2, none⟩ (.bool rr.den.neg)).setCell ⟨w.heap.size, 3, none⟩ (.slice rr.den.A rr.den.k rr.den.c)) = W at *
  exact bodyPost_ret (v := .tuple #[.agg #[.bool rr.num.neg, .slice rr.num.A rr.num.k rr.num.c, .bool rr.den.neg, .slice rr.den.A rr.den.k rr.den.c], .int .i64 0]) (by simp [results, Tryz.results55, go_sem, q0, q1, q2, q3]) rfl hfin

set_option maxRecDepth 100000 in
set_option maxHeartbeats 2000000 in
theorem rparse_G_false (w : World) (s top bot bt : ByteArray) (p d : Nat) (x y : Int) (px : Bool) (hT : Tz w) (hbb : bot = ⟨#[49]⟩)
    (hc : ∀ W, Calls Tryz.prog 101 #[.string s, .string ⟨#[47]⟩] W fun e w' => e = .returned (.tuple #[.string top, .string bt, .bool false]) ∧ Below W.heap.size W w')
    (h1 : ∀ W, Calls Tryz.prog 102 #[.string top] W (RetPI p x W)) (h2 : ∀ W, Calls Tryz.prog 102 #[.string bot] W (RetPI d y W))
    (h3 : ∀ W, Calls Tryz.prog 103 #[.string bot, .string ⟨#[45]⟩] W fun e w' => e = .returned (.bool px) ∧ w' = W) (hp : p = 0) (hd : d = 0) (hx : px = false) (hy : y.sign = 1) :
    Calls Tryz.prog 55 #[.string s] w (RetRE (Rat.divInt x y) 0 w) := by
  have Hc := Lib.hid hc; have H1 := Lib.hid h1; have H2 := Lib.hid h2; have H3 := Lib.hid h3
  obtain ⟨W0, hW0⟩ : ∃ W0, W0 = (w.alloc (.cells #[.bool false, .slice none 0 0, .bool false, .slice none 0 0] 36)) := ⟨_, rfl⟩
  obtain ⟨p0, pb⟩ := lay1 hW0
  have HBr := Lib.hid p0
  have Hbel := Lib.hid pb
  have HT := Lib.hid (Rests.al1 (hT.old) hW0)
  clear p0 pb
  subst hW0
  clear hc h1 h2 h3 hT
  subst hbb
  subst hp hd hx
  have Hy := Lib.hid hy
  clear hy
  go_enter Tryz.func55, Tryz.ntmps55
  go_wp2_with fail
  refine (Hc.out _).mono ?_
  rintro e w1 ⟨rfl, hb1⟩
  replace HBr := Lib.hid (Blk.below (by exact HBr.out) hb1 (by exact HBr.out.lt))
  obtain ⟨sw1HBr0, sw1HBr1, sw1HBr2, sw1HBr3⟩ := Blk.c4 HBr.out
  obtain ⟨fw1HBr0, fw1HBr1, fw1HBr2, fw1HBr3⟩ := Blk.f4 HBr.out
  replace HT := Lib.hid (Rests.below (φ := Tz) (by first | exact HT.out | exact HT.out.drew) hb1)
  replace Hbel := Lib.hid (Below.after (by first | exact Hbel.out | exact Below.drew Hbel.out) hb1)
  clear hb1
  go_wp2_with fail
  refine (H1.out _).mono ?_
  rintro e w2 ⟨i, rfl, hi, hb2⟩
  replace HBr := Lib.hid (Blk.below (by exact HBr.out) hb2 (by exact HBr.out.lt))
  obtain ⟨sw2HBr0, sw2HBr1, sw2HBr2, sw2HBr3⟩ := Blk.c4 HBr.out
  obtain ⟨fw2HBr0, fw2HBr1, fw2HBr2, fw2HBr3⟩ := Blk.f4 HBr.out
  replace HT := Lib.hid (Rests.below (φ := Tz) (by first | exact HT.out | exact HT.out.drew) hb2)
  replace Hbel := Lib.hid (Below.after (by first | exact Hbel.out | exact Below.drew Hbel.out) hb2)
  have Hi := Lib.hid hi.old
  clear hi
  clear hb2
  replace HBr := Lib.hid (HBr.out.alloc (.cells #[.bool i.neg, .slice i.A i.k i.c] 34))
  replace HT := Lib.hid (HT.out.alloc (.cells #[.bool i.neg, .slice i.A i.k i.c] 34))
  replace Hi := Lib.hid (Hi.out.alloc (.cells #[.bool i.neg, .slice i.A i.k i.c] 34))
  replace Hbel := Lib.hid (Hbel.out.alloc Hbel.out.size (.cells #[.bool i.neg, .slice i.A i.k i.c] 34))
  have HBi := Lib.hid (Blk.new w2 34 #[.bool i.neg, .slice i.A i.k i.c])
  clear sw2HBr0 sw2HBr1 sw2HBr2 sw2HBr3
  go_wp2_with fail
  generalize hW2 : w2.alloc (.cells #[.bool i.neg, .slice i.A i.k i.c] 34) = W2 at *
  generalize hgi : w2.heap.size = gi at *
  clear hW2 hgi
  have kW2HBr0 : World.cell? _ ⟨w.heap.size, 0, none⟩ = some (.bool false) := HBr.out.cell 0
  have kW2fHBr0 : World.frozen? _ ⟨w.heap.size, 0, none⟩ = false := HBr.out.frozen 0
  have kW2HBr1 : World.cell? _ ⟨w.heap.size, 1, none⟩ = some (.slice none 0 0) := HBr.out.cell 1
  have kW2fHBr1 : World.frozen? _ ⟨w.heap.size, 1, none⟩ = false := HBr.out.frozen 1
  have kW2HBr2 : World.cell? _ ⟨w.heap.size, 2, none⟩ = some (.bool false) := HBr.out.cell 2
  have kW2fHBr2 : World.frozen? _ ⟨w.heap.size, 2, none⟩ = false := HBr.out.frozen 2
  have kW2HBr3 : World.cell? _ ⟨w.heap.size, 3, none⟩ = some (.slice none 0 0) := HBr.out.cell 3
  have kW2fHBr3 : World.frozen? _ ⟨w.heap.size, 3, none⟩ = false := HBr.out.frozen 3
  have kW2HBi0 : World.cell? _ ⟨gi, 0, none⟩ = some (.bool i.neg) := HBi.out.cell 0
  have kW2HBi1 : World.cell? _ ⟨gi, 1, none⟩ = some (.slice i.A i.k i.c) := HBi.out.cell 1
  refine (H2.out _).mono ?_
  rintro e w3 ⟨j, rfl, hj, hb3⟩
  replace HBr := Lib.hid (Blk.below (by exact HBr.out) hb3 (by exact HBr.out.lt))
  obtain ⟨sw3HBr0, sw3HBr1, sw3HBr2, sw3HBr3⟩ := Blk.c4 HBr.out
  obtain ⟨fw3HBr0, fw3HBr1, fw3HBr2, fw3HBr3⟩ := Blk.f4 HBr.out
  replace HBi := Lib.hid (Blk.below (by exact HBi.out) hb3 (by exact HBi.out.lt))
  obtain ⟨sw3HBi0, sw3HBi1⟩ := Blk.c2 HBi.out
  replace HT := Lib.hid (Rests.below (φ := Tz) (by first | exact HT.out | exact HT.out.drew) hb3)
  replace Hi := Lib.hid (Rests.below (φ := IntD i x 100) (by first | exact Hi.out | exact Hi.out.drew) hb3)
  replace Hbel := Lib.hid (Below.after (by first | exact Hbel.out | exact Below.drew Hbel.out) hb3)
  have Hj := Lib.hid hj.old
  clear hj
  clear hb3
  replace HBr := Lib.hid (HBr.out.alloc (.cells #[.bool j.neg, .slice j.A j.k j.c] 34))
  replace HBi := Lib.hid (HBi.out.alloc (.cells #[.bool j.neg, .slice j.A j.k j.c] 34))
  replace HT := Lib.hid (HT.out.alloc (.cells #[.bool j.neg, .slice j.A j.k j.c] 34))
  replace Hi := Lib.hid (Hi.out.alloc (.cells #[.bool j.neg, .slice j.A j.k j.c] 34))
  replace Hj := Lib.hid (Hj.out.alloc (.cells #[.bool j.neg, .slice j.A j.k j.c] 34))
  replace Hbel := Lib.hid (Hbel.out.alloc Hbel.out.size (.cells #[.bool j.neg, .slice j.A j.k j.c] 34))
  have HBj := Lib.hid (Blk.new w3 34 #[.bool j.neg, .slice j.A j.k j.c])
  clear sw3HBr0 sw3HBr1 sw3HBr2 sw3HBr3 sw3HBi0 sw3HBi1
  go_wp2_with fail
  generalize hW3 : w3.alloc (.cells #[.bool j.neg, .slice j.A j.k j.c] 34) = W3 at *
  generalize hgj : w3.heap.size = gj at *
  clear hW3 hgj
  have kW3HBr0 : World.cell? _ ⟨w.heap.size, 0, none⟩ = some (.bool false) := HBr.out.cell 0
  have kW3fHBr0 : World.frozen? _ ⟨w.heap.size, 0, none⟩ = false := HBr.out.frozen 0
  have kW3HBr1 : World.cell? _ ⟨w.heap.size, 1, none⟩ = some (.slice none 0 0) := HBr.out.cell 1
  have kW3fHBr1 : World.frozen? _ ⟨w.heap.size, 1, none⟩ = false := HBr.out.frozen 1
  have kW3HBr2 : World.cell? _ ⟨w.heap.size, 2, none⟩ = some (.bool false) := HBr.out.cell 2
  have kW3fHBr2 : World.frozen? _ ⟨w.heap.size, 2, none⟩ = false := HBr.out.frozen 2
  have kW3HBr3 : World.cell? _ ⟨w.heap.size, 3, none⟩ = some (.slice none 0 0) := HBr.out.cell 3
  have kW3fHBr3 : World.frozen? _ ⟨w.heap.size, 3, none⟩ = false := HBr.out.frozen 3
  have kW3HBi0 : World.cell? _ ⟨gi, 0, none⟩ = some (.bool i.neg) := HBi.out.cell 0
  have kW3HBi1 : World.cell? _ ⟨gi, 1, none⟩ = some (.slice i.A i.k i.c) := HBi.out.cell 1
  have kW3HBj0 : World.cell? _ ⟨gj, 0, none⟩ = some (.bool j.neg) := HBj.out.cell 0
  have kW3HBj1 : World.cell? _ ⟨gj, 1, none⟩ = some (.slice j.A j.k j.c) := HBj.out.cell 1
  refine (H3.out _).mono ?_
  rintro e w4 ⟨rfl, hw⟩
  have hw2 := hw.symm
  subst hw2
  go_wp2_with fail
  refine (wsign_any _ j y 100 (by omega) (by first | exact Hj.out.now | exact Hj.out.drew.now)).mono ?_
  rintro e w5 ⟨rfl, hb5⟩
  replace HBr := Lib.hid (Blk.below (by exact HBr.out) hb5 (by exact HBr.out.lt))
  obtain ⟨sw5HBr0, sw5HBr1, sw5HBr2, sw5HBr3⟩ := Blk.c4 HBr.out
  obtain ⟨fw5HBr0, fw5HBr1, fw5HBr2, fw5HBr3⟩ := Blk.f4 HBr.out
  replace HBi := Lib.hid (Blk.below (by exact HBi.out) hb5 (by exact HBi.out.lt))
  obtain ⟨sw5HBi0, sw5HBi1⟩ := Blk.c2 HBi.out
  replace HBj := Lib.hid (Blk.below (by exact HBj.out) hb5 (by exact HBj.out.lt))
  obtain ⟨sw5HBj0, sw5HBj1⟩ := Blk.c2 HBj.out
  replace HT := Lib.hid (Rests.below (φ := Tz) (by first | exact HT.out | exact HT.out.drew) hb5)
  replace Hi := Lib.hid (Rests.below (φ := IntD i x 100) (by first | exact Hi.out | exact Hi.out.drew) hb5)
  replace Hj := Lib.hid (Rests.below (φ := IntD j y 100) (by first | exact Hj.out | exact Hj.out.drew) hb5)
  replace Hbel := Lib.hid (Below.after (by first | exact Hbel.out | exact Below.drew Hbel.out) hb5)
  rw [Hy.out]
  clear hb5
  go_wp2_with fail
  refine (make_any _ i j x y 100 (by omega) (by omega) (by first | exact Hi.out.now | exact Hi.out.drew.now) (by first | exact Hj.out.now | exact Hj.out.drew.now) (by first | exact HT.out.now | exact HT.out.drew.now)).mono ?_
  rintro e w6 ⟨rr, rfl, hrr, hb6⟩
  have hgl := HBr.out.lt
  replace HBr := Lib.hid (Blk.below (by exact HBr.out) hb6 (by exact HBr.out.lt))
  obtain ⟨sw6HBr0, sw6HBr1, sw6HBr2, sw6HBr3⟩ := Blk.c4 HBr.out
  obtain ⟨fw6HBr0, fw6HBr1, fw6HBr2, fw6HBr3⟩ := Blk.f4 HBr.out
  replace Hbel := Lib.hid (Below.after (by first | exact Hbel.out | exact Below.drew Hbel.out) hb6)
  have Hrr := Lib.hid (hrr.mono (G := (w.heap.size + 1 ≤ ·)) (fun b hb => Nat.le_trans hgl hb))
  clear hrr hgl
  clear hb6
  go_wp2_with fail
  have hfin : RetRE (Rat.divInt x y) 0 w (.returned (.tuple #[.agg #[.bool rr.num.neg, .slice rr.num.A rr.num.k rr.num.c, .bool rr.den.neg, .slice rr.den.A rr.den.k rr.den.c], .int .i64 0])) ((((w6.setCell ⟨w.heap.size, 0, none⟩ (.bool rr.num.neg)).setCell ⟨w.heap.size, 1, none⟩ (.slice rr.num.A rr.num.k rr.num.c)).setCell ⟨w.heap.size, 2, none⟩ (.bool rr.den.neg)).setCell ⟨w.heap.size, 3, none⟩ (.slice rr.den.A rr.den.k rr.den.c)) := RetRE.of (r := rr) (ret_boxR (r := rr) (g := w.heap.size) (w2 := w6) Hbel.out (by omega) Hrr.out (fun _ h => h))
  have b4 := box4 HBr.out (.bool rr.num.neg) (.slice rr.num.A rr.num.k rr.num.c) (.bool rr.den.neg) (.slice rr.den.A rr.den.k rr.den.c)
  have q0 : World.cell? ((((w6.setCell ⟨w.heap.size, 0, none⟩ (.bool rr.num.neg)).setCell ⟨w.heap.size, 1, none⟩ (.slice rr.num.A rr.num.k rr.num.c)).setCell ⟨w.heap.size, 2, none⟩ (.bool rr.den.neg)).setCell ⟨w.heap.size, 3, none⟩ (.slice rr.den.A rr.den.k rr.den.c)) ⟨w.heap.size, 0, none⟩ = some (.bool rr.num.neg) := b4.cell 0
  have q1 : World.cell? ((((w6.setCell ⟨w.heap.size, 0, none⟩ (.bool rr.num.neg)).setCell ⟨w.heap.size, 1, none⟩ (.slice rr.num.A rr.num.k rr.num.c)).setCell ⟨w.heap.size, 2, none⟩ (.bool rr.den.neg)).setCell ⟨w.heap.size, 3, none⟩ (.slice rr.den.A rr.den.k rr.den.c)) ⟨w.heap.size, 1, none⟩ = some (.slice rr.num.A rr.num.k rr.num.c) := b4.cell 1
  have q2 : World.cell? ((((w6.setCell ⟨w.heap.size, 0, none⟩ (.bool rr.num.neg)).setCell ⟨w.heap.size, 1, none⟩ (.slice rr.num.A rr.num.k rr.num.c)).setCell ⟨w.heap.size, 2, none⟩ (.bool rr.den.neg)).setCell ⟨w.heap.size, 3, none⟩ (.slice rr.den.A rr.den.k rr.den.c)) ⟨w.heap.size, 2, none⟩ = some (.bool rr.den.neg) := b4.cell 2
  have q3 : World.cell? ((((w6.setCell ⟨w.heap.size, 0, none⟩ (.bool rr.num.neg)).setCell ⟨w.heap.size, 1, none⟩ (.slice rr.num.A rr.num.k rr.num.c)).setCell ⟨w.heap.size, 2, none⟩ (.bool rr.den.neg)).setCell ⟨w.heap.size, 3, none⟩ (.slice rr.den.A rr.den.k rr.den.c)) ⟨w.heap.size, 3, none⟩ = some (.slice rr.den.A rr.den.k rr.den.c) := b4.cell 3
  clear b4 HBr Hbel
  generalize ((((w6.setCell ⟨w.heap.size, 0, none⟩ (.bool rr.num.neg)).setCell ⟨w.heap.size, 1, none⟩ (.slice rr.num.A rr.num.k rr.num.c)).setCell ⟨w.heap.size, 2, none⟩ (.bool rr.den.neg)).setCell ⟨w.heap.size, 3, none⟩ (.slice rr.den.A rr.den.k rr.den.c)) = W at *
  exact bodyPost_ret (v := .tuple #[.agg #[.bool rr.num.neg, .slice rr.num.A rr.num.k rr.num.c, .bool rr.den.neg, .slice rr.den.A rr.den.k rr.den.c], .int .i64 0]) (by simp [results, Tryz.results55, go_sem, q0, q1, q2, q3]) rfl hfin

end Go.Proofs.YtbdgeinfijamcaaGreatDoor
